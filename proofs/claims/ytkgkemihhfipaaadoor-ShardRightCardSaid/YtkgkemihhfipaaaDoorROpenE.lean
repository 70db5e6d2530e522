/- Packed by pack.py (this session's own program): texts of the kit's printer and of my own, what is not used struck. -/
import Derived.Test.YtkgkemihhfipaaaDoorCards
import Derived.Test.YtkgkemihhfipaaaDoorTie
import Derived.Test.YtkgkemihhfipaaaDoorRShardLaw
import Derived.ProofKit
import Derived.LaidMore
import Derived.OpenShut
import Derived.Stop.Joined
import Derived.ShutString
import Derived.ChangeOld
import Derived.SizedLaws
import Derived.Deep.Slices
import Derived.Lib.SmallJoins
set_option linter.unusedVariables false
set_option linter.unusedSimpArgs false
set_option linter.unusedSectionVars false
namespace Go.Proofs.YtkgkemihhfipaaaDoor.HK
open Go.RowKit Go.Proofs.YtkgkemihhfipaaaDoorW.PrintWords Go.Proofs.YtkgkemihhfipaaaDoorW.PrintLast Go.Proofs.YtkgkemihhfipaaaDoorW.PrintMore
open Go.ChangeShapes Go.WideShapes Go.Deep
theorem gTypes : Tryd.prog.globalNamed "paydesk/deal.types" = some 0 := by kernel_rfl
theorem tTypes : (Tryd.prog.globals[0]?).map (·.type) = some 115 := by kernel_rfl
theorem cStr : Tryd.prog.cellsOf 9 = 1 := by kernel_rfl
set_option maxRecDepth 100000 in
theorem of_laid {W : World} (h : laidMetH Tryd.prog [("paydesk/deal.types", Rows.laid_paydesk_deal_types)] W) : TypesAt W := by
  rw [MakeChecks.laidMetH_plain _ _ _ (by kernel_rfl)] at h
  obtain ⟨ps, ⟨g0, t0, cs0, f0, p0, q0, hg0, ht0, hv0, hd0, _, _⟩, _, _⟩ := h
  obtain rfl := Option.some.inj (gTypes.symm.trans hg0)
  obtain rfl := Option.some.inj (tTypes.symm.trans ht0)
  obtain ⟨xs, m1, rfl, hx1, hlen, hn8, hel⟩ := DataW.trod_array Tryd.underlying115 hd0
  rw [cStr] at hel
  simp only [Prod.mk.injEq] at hx1
  have hx := hx1.1
  intro j hj
  have hc := World.var?_cell hg0 hv0 j
  have he := hel j hj
  have hcl : cs0.toList.length = 8 := hlen.trans (by kernel_rfl)
  rw [Nat.mul_one, take1_drop cs0.toList j undef (by omega)] at he
  have hxj : ∃ y, xs[j]? = some y := ⟨_, List.getElem?_eq_getElem (by omega)⟩
  obtain ⟨y, hy⟩ := hxj
  rw [hy] at he
  obtain ⟨s, e1, e2, _⟩ := DataW.trod_string Tryd.underlying9 he
  injection e1 with e1
  have hcj : cs0[j]? = some (.string s) := by
    rw [← Array.getElem?_toList, List.getElem?_eq_getElem (by omega)]
    rw [List.getD_eq_getElem?_getD, List.getElem?_eq_getElem (by omega)] at e1
    exact congrArg some e1
  rw [hc, hcj]
  have hd : (xs.map (·.1))[j]? = some (.lit (.string s.data.toList)) := by rw [List.getElem?_map, hy, e2]; rfl
  have hdl : xs.map (·.1) = [.lit (.string []), .lit (.string [48, 49, 48, 48]), .lit (.string [48, 49, 49, 48]), .lit (.string [48, 52, 48, 48]), .lit (.string [48, 52, 49, 48]), .lit (.string [48, 52, 50, 48]), .lit (.string [48, 52, 50, 49]), .lit (.string [48, 52, 51, 48])] := by
    have : Rows.laid_paydesk_deal_types = DataW.agg (xs.map (·.1)) := hx
    unfold Rows.laid_paydesk_deal_types at this
    injection this with this
    exact this.symm
  rw [hdl] at hd
  have hs : s.data.toList = (typeAt j).data.toList := by
    match j, hj, hd with
    | 0, _, hd => exact (Lit.string.inj (DataW.lit.inj (Option.some.inj hd))).symm.trans rfl
    | 1, _, hd => exact (Lit.string.inj (DataW.lit.inj (Option.some.inj hd))).symm.trans rfl
    | 2, _, hd => exact (Lit.string.inj (DataW.lit.inj (Option.some.inj hd))).symm.trans rfl
    | 3, _, hd => exact (Lit.string.inj (DataW.lit.inj (Option.some.inj hd))).symm.trans rfl
    | 4, _, hd => exact (Lit.string.inj (DataW.lit.inj (Option.some.inj hd))).symm.trans rfl
    | 5, _, hd => exact (Lit.string.inj (DataW.lit.inj (Option.some.inj hd))).symm.trans rfl
    | 6, _, hd => exact (Lit.string.inj (DataW.lit.inj (Option.some.inj hd))).symm.trans rfl
    | 7, _, hd => exact (Lit.string.inj (DataW.lit.inj (Option.some.inj hd))).symm.trans rfl
  have : s = typeAt j := bytes_same (by rw [ByteArray.toList_eq, ByteArray.toList_eq]; exact hs)
  rw [this]
section
variable {H : Type} {enc : TypeId × Value → H} {w : World} {base : Nat} {spare : Nat → Bool} {held : Bool} {fuel : Nat} {cs : List Value} {x : DataW H × List MemPlace}
theorem cU32 : Tryd.prog.cellsOf 23 = 1 := by kernel_rfl
theorem cU64 : Tryd.prog.cellsOf 26 = 1 := by kernel_rfl
theorem cI64 : Tryd.prog.cellsOf 3 = 1 := by kernel_rfl
theorem cKey : Tryd.prog.cellsOf 25 = 2 := by kernel_rfl
theorem cEnt : Tryd.prog.cellsOf 28 = 8 := by kernel_rfl
theorem bd_u32 {n : Int} (h : (Lit.int .u32 n).wf = true) : 0 ≤ n ∧ n < 4294967296 := by
  obtain ⟨h0, h1⟩ := bounds_u32 h
  omega
theorem bd_u64 {n : Int} (h : (Lit.int .u64 n).wf = true) : 0 ≤ n ∧ n < 18446744073709551616 := by
  obtain ⟨h0, h1⟩ := bounds_u64 h
  omega
set_option maxRecDepth 100000 in
theorem open_key (h : DataW.trod enc Tryd.prog w base spare held fuel 25 cs = some x) : ∃ q : EK, cs = [.int .u32 q.f0, .string q.f1] ∧ 0 ≤ q.f0 ∧ q.f0 < 4294967296 := by
  obtain ⟨xs, n, _, _, hl, hlen, hf⟩ := DataW.trod_struct Tryd.underlying25 h
  rw [cKey] at hl
  match cs, hl with
  | [c0, c1], _ =>
    have h0 : DataW.trod enc Tryd.prog w base spare held n 23 (([c0, c1].drop 0).take (Tryd.prog.cellsOf 23)) = xs[0]? := hf 0 _ rfl
    have h1 : DataW.trod enc Tryd.prog w base spare held n 9 (([c0, c1].drop 1).take (Tryd.prog.cellsOf 9)) = xs[1]? := hf 1 _ rfl
    have hx : xs.length = 2 := hlen
    rw [cU32, List.getElem?_eq_getElem (by omega)] at h0
    rw [cStr, List.getElem?_eq_getElem (by omega)] at h1
    obtain ⟨a, e0, _, hw⟩ := DataW.trod_int Tryd.underlying23 h0
    obtain ⟨b, e1, _, _⟩ := DataW.trod_string Tryd.underlying9 h1
    injection e0 with e0
    injection e1 with e1
    exact ⟨⟨a, b⟩, by rw [e0, e1], (bd_u32 hw).1, (bd_u32 hw).2⟩
set_option maxRecDepth 100000 in
theorem open_entry (h : DataW.trod enc Tryd.prog w base spare held fuel 28 cs = some x) : ∃ e : EE, cs = cE e ∧ Rg e := by
  obtain ⟨xs, n, _, _, hl, hlen, hf⟩ := DataW.trod_struct Tryd.underlying28 h
  rw [cEnt] at hl
  match cs, hl with
  | [c0, c1, c2, c3, c4, c5, c6, c7], _ =>
    have h0 : DataW.trod enc Tryd.prog w base spare held n 25 (([c0, c1, c2, c3, c4, c5, c6, c7].drop 0).take (Tryd.prog.cellsOf 25)) = xs[0]? := hf 0 _ rfl
    have h1 : DataW.trod enc Tryd.prog w base spare held n 3 (([c0, c1, c2, c3, c4, c5, c6, c7].drop 2).take (Tryd.prog.cellsOf 3)) = xs[1]? := hf 1 _ rfl
    have h2 : DataW.trod enc Tryd.prog w base spare held n 9 (([c0, c1, c2, c3, c4, c5, c6, c7].drop 3).take (Tryd.prog.cellsOf 9)) = xs[2]? := hf 2 _ rfl
    have h3 : DataW.trod enc Tryd.prog w base spare held n 26 (([c0, c1, c2, c3, c4, c5, c6, c7].drop 4).take (Tryd.prog.cellsOf 26)) = xs[3]? := hf 3 _ rfl
    have h4 : DataW.trod enc Tryd.prog w base spare held n 9 (([c0, c1, c2, c3, c4, c5, c6, c7].drop 5).take (Tryd.prog.cellsOf 9)) = xs[4]? := hf 4 _ rfl
    have h5 : DataW.trod enc Tryd.prog w base spare held n 3 (([c0, c1, c2, c3, c4, c5, c6, c7].drop 6).take (Tryd.prog.cellsOf 3)) = xs[5]? := hf 5 _ rfl
    have h6 : DataW.trod enc Tryd.prog w base spare held n 3 (([c0, c1, c2, c3, c4, c5, c6, c7].drop 7).take (Tryd.prog.cellsOf 3)) = xs[6]? := hf 6 _ rfl
    have hx : xs.length = 7 := hlen
    rw [cKey, List.getElem?_eq_getElem (by omega)] at h0
    rw [cI64, List.getElem?_eq_getElem (by omega)] at h1 h5 h6
    rw [cStr, List.getElem?_eq_getElem (by omega)] at h2 h4
    rw [cU64, List.getElem?_eq_getElem (by omega)] at h3
    obtain ⟨q, e0, r0, r1⟩ := open_key h0
    obtain ⟨a1, e1, _, _⟩ := DataW.trod_int Tryd.underlying3 h1
    obtain ⟨a2, e2, _, _⟩ := DataW.trod_string Tryd.underlying9 h2
    obtain ⟨a3, e3, _, hw⟩ := DataW.trod_int Tryd.underlying26 h3
    obtain ⟨a4, e4, _, _⟩ := DataW.trod_string Tryd.underlying9 h4
    obtain ⟨a5, e5, _, _⟩ := DataW.trod_int Tryd.underlying3 h5
    obtain ⟨a6, e6, _, _⟩ := DataW.trod_int Tryd.underlying3 h6
    injection e0 with e00 e01
    injection e01 with e01
    injection e1 with e1
    injection e2 with e2
    injection e3 with e3
    injection e4 with e4
    injection e5 with e5
    injection e6 with e6
    exact ⟨⟨q, a1, a2, a3, a4, a5, a6⟩, by rw [e00, e01, e1, e2, e3, e4, e5, e6]; rfl, ⟨r0, r1, (bd_u64 hw).1, (bd_u64 hw).2⟩⟩
theorem open_entries (h : DataW.trod enc Tryd.prog w base spare held fuel 22 cs = some x) : ∃ A c l, cs = [.slice A (l : List EE).length c] ∧ l.length ≤ c ∧ c ≤ maxLen ∧ Kd.C k28 w A l.length l ∧ ∀ e ∈ l, Rg e := by
  rcases open_slice Tryd.underlying22 h with ⟨rfl, _⟩ | ⟨a, len, cap, m, n, D, Pl, rfl, hb, hl, hm, hmm, _, hi⟩
  · exact ⟨none, 0, [], rfl, Nat.le_refl _, by simp [maxLen], Kd.C_nil _ _, fun e he => by simp at he⟩
  · have hlm : len ≤ m := by rw [hmm]; split <;> omega
    rw [cEnt] at hi
    have build : ∀ k, k ≤ len → ∃ l : List EE, l.length = k ∧ (∀ e ∈ l, Rg e) ∧ ∀ j p, l[j]? = some p → ∀ i u, (cE p)[i]? = some u → w.cell? (a.add (j * 8 + i)) = some u := by
      intro k
      induction k with
      | zero => exact fun _ => ⟨[], rfl, fun e he => by simp at he, fun j p hj => by simp at hj⟩
      | succ k ih =>
        intro hk
        obtain ⟨l, h1, h2, h3⟩ := ih (by omega)
        obtain ⟨cs', hcs', htr⟩ := hi k (by omega)
        obtain ⟨e, rfl, hr⟩ := open_entry htr
        obtain ⟨_, hlen, hat⟩ := World.cells?_some hcs'
        refine ⟨l ++ [e], by simp [h1], fun e' he' => ?_, fun j p hj i u hu => ?_⟩
        · rcases List.mem_append.1 he' with h | h
          · exact h2 e' h
          · simp at h; subst h; exact hr
        · rw [List.getElem?_append] at hj
          split at hj
          · exact h3 j p hj i u hu
          · have hjk : j = k := by
              have := (List.getElem?_eq_some_iff.1 hj).1
              simp at this
              omega
            subst hjk
            rw [h1] at hj
            simp at hj
            subst hj
            have hi8 : i < 8 := (List.getElem?_eq_some_iff.1 hu).1
            have h0 := hat i hi8
            rw [hu] at h0
            rw [← add_of_add]
            exact h0
    obtain ⟨l, h1, h2, h3⟩ := build len (Nat.le_refl _)
    subst h1
    exact ⟨some a, cap, l, rfl, hl, hm, ⟨rfl, by have := hm; simp only [maxLen] at this; omega, fun h0 => ⟨a, rfl, fun j p hj => ⟨cE p, rfl, k28_mk w p, h3 j p hj⟩⟩⟩, h2⟩
end
end Go.Proofs.YtkgkemihhfipaaaDoor.HK

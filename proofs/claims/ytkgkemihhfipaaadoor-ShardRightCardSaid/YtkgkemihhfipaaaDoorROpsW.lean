/- Packed by pack.py (this session's own program): texts of the kit's printer and of my own, what is not used struck. -/
import Derived.Test.YtkgkemihhfipaaaDoorRPlaceW
import Derived.Test.YtkgkemihhfipaaaDoorRInsW
set_option linter.unusedVariables false
set_option linter.unusedSimpArgs false
set_option linter.unusedSectionVars false
namespace Go.Proofs.YtkgkemihhfipaaaDoor.HK
open Go.RowKit Go.Proofs.YtkgkemihhfipaaaDoorW.PrintWords Go.Proofs.YtkgkemihhfipaaaDoorW.PrintLast Go.Proofs.YtkgkemihhfipaaaDoorW.PrintMore
def insB (l : List EE) (e : EE) : List EE × Int := if shardB l = true ∧ entryB e = true then (match fd l e.f0 with | some _ => (l, 6) | none => if l.length = 128 then (l, 7) else (pt l e, 0)) else (l, 1)
def swpB (l : List EE) (st : Int) (e : EE) : List EE × Int := if shardB l = true ∧ entryB e = true then (match fd l e.f0 with | none => (l, 5) | some y => if y.f1 = st then (pt l e, 0) else (l, 8)) else (l, 1)
def remB (l : List EE) (k : EK) : List EE × Int := if shardB l = true then (match fd l k with | none => (l, 5) | some _ => (dl l k, 0)) else (l, 1)
theorem shardB_inc {l : List EE} (h : shardB l = true) : Inc ordK κE l ∧ l.length ≤ 128 ∧ ∀ x ∈ l, entryB x = true := by
  unfold shardB at h
  rw [Bool.and_eq_true, Bool.and_eq_true, decide_eq_true_eq] at h
  exact ⟨(inc_iff ordK_is l).1 h.2.1, h.2.2, fun x hx => List.all_eq_true.1 h.1 x hx⟩
theorem seen_find {l : List EE} {q : EK} {p : Nat} (hi : Inc ordK κE l) (h : At (c := ordK) (κ := κE) l q p) : seenAt l q p = (fd l q).isSome := by
  rw [show fd l q = _ from At.find ordK_is l q p hi h]
  unfold seenAt
  cases l[p]? with
  | none => rfl
  | some x =>
    by_cases hz : ordK x.f0 q = 0
    · simp [hz]
    · simp [hz]
abbrev vE (e : EE) : Value := .agg #[.int .u32 e.f0.f0, .string e.f0.f1, .int .i64 e.f1, .string e.f2, .int .u64 e.f3, .string e.f4, .int .i64 e.f5, .int .i64 e.f6]
def Far (w : World) (A A' : Option Addr) : Prop := A' = A ∨ ∀ ad, A' = some ad → w.heap.size ≤ ad.block
theorem Far.own {w w' : World} {A A' : Option Addr} {base n c size : Nat} {t : TypeId} {xs : List Value} (h : w'.ownsRow base t size (.slice A' n c) n xs) (hb : w.heap.size ≤ base) : Far w A A' :=
  .inr fun ad he => by subst he; exact Nat.le_trans hb (own_base h ad.block rfl)
def Gave (w : World) (A : Option Addr) (r : List EE × Int) (e : Ending) (w' : World) : Prop := ∃ A' c, e = .returned (.tuple #[.slice A' r.1.length c, .int .i64 r.2]) ∧ r.1.length ≤ c ∧ Kd.C k28 w' A' r.1.length r.1 ∧ Below w.heap.size w w' ∧ Far w A A'
abbrev bxE (e : EE) : Obj := .cells #[.int .u32 e.f0.f0, .string e.f0.f1, .int .i64 e.f1, .string e.f2, .int .u64 e.f3, .string e.f4, .int .i64 e.f5, .int .i64 e.f6] 28
def BoxE (w : World) (g : Nat) (e : EE) : Prop := w.cell? ⟨g, 0, none⟩ = some (.int .u32 e.f0.f0) ∧ w.cell? ⟨g, 1, none⟩ = some (.string e.f0.f1) ∧ w.cell? ⟨g, 2, none⟩ = some (.int .i64 e.f1) ∧ w.cell? ⟨g, 3, none⟩ = some (.string e.f2) ∧ w.cell? ⟨g, 4, none⟩ = some (.int .u64 e.f3) ∧ w.cell? ⟨g, 5, none⟩ = some (.string e.f4) ∧ w.cell? ⟨g, 6, none⟩ = some (.int .i64 e.f5) ∧ w.cell? ⟨g, 7, none⟩ = some (.int .i64 e.f6)
theorem BoxE.new (w : World) (e : EE) : BoxE (w.alloc (bxE e)) w.heap.size e := by
  refine ⟨?_, ?_, ?_, ?_, ?_, ?_, ?_, ?_⟩ <;> simp
theorem BoxE.below {w w' : World} {g : Nat} {e : EE} (h : BoxE w g e) (hb : Below w.heap.size w w') : BoxE w' g e :=
  ⟨cell_below hb h.1, cell_below hb h.2.1, cell_below hb h.2.2.1, cell_below hb h.2.2.2.1, cell_below hb h.2.2.2.2.1, cell_below hb h.2.2.2.2.2.1, cell_below hb h.2.2.2.2.2.2.1, cell_below hb h.2.2.2.2.2.2.2⟩
theorem rowE_new (w : World) (e : EE) : Row (w.alloc (bxE e)) w.heap.size 28 8 1 1 (cE e) := Row.of_alloc w _ 8 1 1 (cE e) [] rfl (Nat.le_refl _) (by simp only [maxLen]; omega) rfl _ rfl
variable [digit_Fine.Has] [field_Right.Has] [deal_typeOf.Has] [paydeskref07_Order.Has]
set_option maxHeartbeats 8000000 in
set_option maxRecDepth 100000 in
theorem sh_insert (A : Option Addr) (c : Nat) (l : List EE) (e : EE) (w : World) (hr : Kd.C k28 w A l.length l) (hc : l.length ≤ c) (hok : ∀ x ∈ l, Ok x) (he : Ok e) (hn : l.length ≤ 1000) (hty : TypesAt w) :
    Calls Tryd.prog 14 #[.slice A l.length c, vE e] w (Gave w A (insB l e)) := by
  have HR := Sealed.mk hr
  have HK := Sealed.mk hok
  have HE := Sealed.mk he
  have HT := Sealed.mk hty
  clear hr hok he hty
  have HB0 := Sealed.mk (below_alloc w (bxE e))
  have hx0 := BoxE.new w e
  obtain ⟨R, hR⟩ : ∃ R, insB l e = R := ⟨_, rfl⟩
  rw [hR]
  have HRS := Sealed.mk hR
  clear hR
  cases hs : shardB l with
  | false =>
    have HS := Sealed.mk hs
    clear hs hx0
    go_enter Tryd.func14, Tryd.ntmps14
    go_wp2_with fail
    refine (sh_right A c l _ (Kd.C_below HR.out HB0.out) hc HK.out hn (HT.out.of HB0.out)).mono ?_
    rw [HS.out]
    rintro _ w1 ⟨rfl, hb1⟩
    go_wp2
    refine bodyPost_ret (v := .tuple #[.slice A l.length c, .int .i64 1]) (by simp [results, Tryd.results14, go_sem]) rfl ?_
    have e1 : R = (l, 1) := by rw [← HRS.out]; unfold insB; rw [if_neg (by rw [HS.out]; simp)]
    subst e1
    exact ⟨A, c, rfl, hc, Kd.C_below HR.out (below_next HB0.out hb1), below_next HB0.out hb1, .inl rfl⟩
  | true =>
    have HS := Sealed.mk hs
    clear hs
    cases hen : entryB e with
    | false =>
      have HEN := Sealed.mk hen
      clear hen
      go_enter Tryd.func14, Tryd.ntmps14
      go_wp2_with fail
      refine (sh_right A c l _ (Kd.C_below HR.out HB0.out) hc HK.out hn (HT.out.of HB0.out)).mono ?_
      rw [HS.out]
      rintro _ w1 ⟨rfl, hb1⟩
      obtain ⟨x0, x1, x2, x3, x4, x5, x6, x7⟩ := hx0.below hb1
      have HB1 := Sealed.mk (below_next HB0.out hb1)
      clear hb1
      go_wp2_with fail
      refine (sh_entry e HE.out false HEN.out _ (HT.out.of HB1.out)).mono ?_
      rintro _ w2 ⟨rfl, hb2⟩
      go_wp2
      refine bodyPost_ret (v := .tuple #[.slice A l.length c, .int .i64 1]) (by simp [results, Tryd.results14, go_sem]) rfl ?_
      have e1 : R = (l, 1) := by rw [← HRS.out]; unfold insB; rw [if_neg (by rw [HEN.out]; simp)]
      subst e1
      exact ⟨A, c, rfl, hc, Kd.C_below HR.out (below_next HB1.out hb2), below_next HB1.out hb2, .inl rfl⟩
    | true =>
      have HEN := Sealed.mk hen
      clear hen
      obtain ⟨hinc, h128, hall⟩ := shardB_inc HS.out
      have HI := Sealed.mk hinc
      have h128' : (l.length : Int) ≤ 128 := by omega
      clear hinc hall
      go_enter Tryd.func14, Tryd.ntmps14
      go_wp2_with fail
      refine (sh_right A c l _ (Kd.C_below HR.out HB0.out) hc HK.out hn (HT.out.of HB0.out)).mono ?_
      rw [HS.out]
      rintro _ w1 ⟨rfl, hb1⟩
      have hx1 := hx0.below hb1
      obtain ⟨x0, x1, x2, x3, x4, x5, x6, x7⟩ := hx1
      have HX1 := Sealed.mk (hx0.below hb1)
      have HB1 := Sealed.mk (below_next HB0.out hb1)
      clear hb1 hx0
      go_wp2_with fail
      refine (sh_entry e HE.out true HEN.out _ (HT.out.of HB1.out)).mono ?_
      rintro _ w2 ⟨rfl, hb2⟩
      clear x0 x1 x2 x3 x4 x5 x6 x7
      obtain ⟨x0, x1, x2, x3, x4, x5, x6, x7⟩ := HX1.out.below hb2
      have HX2 := Sealed.mk (HX1.out.below hb2)
      have HB2 := Sealed.mk (below_next HB1.out hb2)
      clear hb2 HX1
      go_wp2_with fail
      refine (place_e A c l e.f0 _ (Kd.C_below HR.out HB2.out) hc hn HI.out).mono ?_
      rintro _ w3 ⟨p, hp, rfl, hb3⟩
      have hsee := seen_find HI.out hp
      have HP := Sealed.mk hp
      have hple : p ≤ l.length := hp.le
      clear x0 x1 x2 x3 x4 x5 x6 x7 hp
      obtain ⟨x0, x1, x2, x3, x4, x5, x6, x7⟩ := HX2.out.below hb3
      have HX3 := Sealed.mk (HX2.out.below hb3)
      have HB3 := Sealed.mk (below_next HB2.out hb3)
      clear hb3 HX2
      cases hfd : fd l e.f0 with
      | some y =>
        rw [hsee, hfd]
        have HF := Sealed.mk hfd
        clear hfd hsee
        go_wp2
        refine bodyPost_ret (v := .tuple #[.slice A l.length c, .int .i64 6]) (by simp [results, Tryd.results14, go_sem]) rfl ?_
        have e1 : R = (l, 6) := by rw [← HRS.out]; unfold insB; rw [if_pos ⟨HS.out, HEN.out⟩, HF.out]
        subst e1
        exact ⟨A, c, rfl, hc, Kd.C_below HR.out HB3.out, HB3.out, .inl rfl⟩
      | none =>
        rw [hsee, hfd]
        have HF := Sealed.mk hfd
        clear hfd hsee
        by_cases hfull : l.length = 128
        · have g1 : ((l.length : Int) == 128) = true := by simp; omega
          have HFL := Sealed.mk hfull
          clear hfull
          go_wp2
          refine bodyPost_ret (v := .tuple #[.slice A l.length c, .int .i64 7]) (by simp [results, Tryd.results14, go_sem]) rfl ?_
          have e1 : R = (l, 7) := by rw [← HRS.out]; unfold insB; rw [if_pos ⟨HS.out, HEN.out⟩, HF.out]; exact if_pos HFL.out
          subst e1
          exact ⟨A, c, rfl, hc, Kd.C_below HR.out HB3.out, HB3.out, .inl rfl⟩
        · have g1 : ((l.length : Int) == 128) = false := by simp; omega
          have HBD := HB3.out.drew
          have hlt3 : w.heap.size < w3.heap.size := World.block_lt_of_cell? w3 _ x0
          have hle3 := HB3.out.size
          go_wp2_with fail
          go_region_held3 (fun w' => w'.cell? ⟨w.heap.size, 0, none⟩ = some (.int .u32 e.f0.f0) ∧ w'.cell? ⟨w.heap.size, 1, none⟩ = some (.string e.f0.f1) ∧ w'.cell? ⟨w.heap.size, 2, none⟩ = some (.int .i64 e.f1) ∧ w'.cell? ⟨w.heap.size, 3, none⟩ = some (.string e.f2) ∧ w'.cell? ⟨w.heap.size, 4, none⟩ = some (.int .u64 e.f3) ∧ w'.cell? ⟨w.heap.size, 5, none⟩ = some (.string e.f4) ∧ w'.cell? ⟨w.heap.size, 6, none⟩ = some (.int .i64 e.f5) ∧ w'.cell? ⟨w.heap.size, 7, none⟩ = some (.int .i64 e.f6) ∧ Below w.heap.size w w')
            (first
              | exact ⟨x0, x1, x2, x3, x4, x5, x6, x7, HBD⟩
              | (go_split_ands; refine ⟨?_, ?_, ?_, ?_, ?_, ?_, ?_, ?_, ?_⟩ <;> assumption)
              | (go_split_ands; refine ⟨cell_below hbz (by assumption), cell_below hbz (by assumption), cell_below hbz (by assumption), cell_below hbz (by assumption), cell_below hbz (by assumption), cell_below hbz (by assumption), cell_below hbz (by assumption), cell_below hbz (by assumption), below_next (by assumption) hbz⟩)
              | (go_split_ands; refine ⟨cell_below (below_alloc _ _) (by assumption), cell_below (below_alloc _ _) (by assumption), cell_below (below_alloc _ _) (by assumption), cell_below (below_alloc _ _) (by assumption), cell_below (below_alloc _ _) (by assumption), cell_below (below_alloc _ _) (by assumption), cell_below (below_alloc _ _) (by assumption), cell_below (below_alloc _ _) (by assumption), below_next (by assumption) (below_alloc _ _)⟩)
              | (go_split_ands; refine ⟨(hbi.cell hlt3).trans (by assumption), (hbi.cell hlt3).trans (by assumption), (hbi.cell hlt3).trans (by assumption), (hbi.cell hlt3).trans (by assumption), (hbi.cell hlt3).trans (by assumption), (hbi.cell hlt3).trans (by assumption), (hbi.cell hlt3).trans (by assumption), (hbi.cell hlt3).trans (by assumption), Below.trans (by assumption) (hbi.mono hle3)⟩))
            (first
              | (go_at_call 41; go_split_ands; refine (clone_e _ Anywhere A l.length c (evs l) ?h1 (evs_one l) (by omega)).mono ?_; (case h1 => exact (rd_of_C HR.out).below (by assumption)); rintro _ wz ⟨A1, c1, rfl, hc1, hown, hbz⟩)
              | (go_at_call 40; go_split_ands; refine (insert_e _ w3.heap.size A1 l.length c1 p (evs l) ?i1 ?i2 hple (evs_one l) _ ?i3 (cE e) ?i4 ?i5 (by omega)).mono ?_; (case i1 => first | exact own_lower (own_below hown (below_alloc _ _)) (by simp) | exact own_lower hown (by simp)); (case i2 => have hz := hbz.size; simp at hz ⊢; omega); (case i3 => first | (intro k hk hv; have h1 := own_base hown k hk; simp at h1; omega) | (intro k hk hv; have h1 := (hown.lt k hk).2; omega)); (case i4 => first | exact rowE_new _ e | exact (rowE_new _ e).move (hbz.block _ (by simp))); (case i5 => exact fun u hu => evs_one [e] u (by simpa [evs] using hu)); rintro _ wi ⟨A2, c2, rfl, hc2, hown2, hbi⟩))
          all_goals
            go_wp2
            have e1 : R = (pt l e, 0) := by rw [← HRS.out]; unfold insB; rw [if_pos ⟨HS.out, HEN.out⟩, HF.out]; exact if_neg hfull
            have e2 : (pt l e).length = l.length + 1 := len_put_none ordK_is l e HF.out
            have e3 : (evs l).take (p * 8) ++ cE e ++ (evs l).drop (p * 8) = evs (pt l e) := by
              rw [show pt l e = _ from At.put ordK_is l e p HP.out HF.out, evs_append, evs_take, evs_drop, List.append_assoc]
              rfl
            rw [e3] at hown2
            rw [e1]
            refine bodyPost_ret (v := .tuple #[.slice A2 (l.length + 1) c2, .int .i64 0]) (by simp [results, Tryd.results14, go_sem]) rfl ?_
            go_split_ands
            refine ⟨A2, c2, by rw [e2], by rw [e2]; exact hc2, ?_, by assumption, Far.own hown2 hle3⟩
            refine C_of_rd (S := fun k => w3.heap.size ≤ k ∧ k < wi.heap.size) ?_ (by rw [e2]; omega)
            rw [e2]
            exact Rd.of_own hown2
end Go.Proofs.YtkgkemihhfipaaaDoor.HK

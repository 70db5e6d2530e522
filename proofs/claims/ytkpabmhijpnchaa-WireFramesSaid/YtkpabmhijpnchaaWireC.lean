/- wire.Pass, wire.Twice: what they tell. -/
import Derived.Test.YtkpabmhijpnchaaWireB
set_option linter.unusedVariables false
set_option linter.unusedSimpArgs false
namespace Go.Proofs.Ytkpabmhijpnchaa
open Go.RowKit
def passOf (L : List (List UInt8)) (a : Int) : List (List UInt8) × List UInt8 × Int :=
  if (placeOf L.length a).2 = 0 then (L.eraseIdx (placeOf L.length a).1.toNat, L.getD (placeOf L.length a).1.toNat [], 0) else (L, [], (placeOf L.length a).2)
def TwoRowsB (r : List (List UInt8) × List UInt8 × Int) (S : Nat → Prop) (w : World) (e : Ending) (w' : World) : Prop :=
  ∃ A c B d, e = .returned (.tuple #[.agg #[.slice A r.1.length c], .slice B r.2.1.length d, .int .i64 r.2.2]) ∧ r.1.length ≤ c ∧ Rd2 w' (Later S w) A r.1 ∧ r.2.1.length ≤ d ∧ Rd w' (Later S w) 1 B r.2.1.length (bv r.2.1) ∧ Below w.heap.size w w'
theorem placeOf_ok {n : Nat} {a : Int} (h : (placeOf n a).2 = 0) : n ≤ 200 ∧ 0 < n ∧ 0 ≤ a ∧ (placeOf n a).1 = ((a.toNat % n : Nat) : Int) := by
  unfold placeOf at h ⊢
  split at h
  · cases h
  · split at h
    · cases h
    · rw [if_neg (by assumption), if_neg (by assumption)]
      refine ⟨by omega, by omega, by omega, ?_⟩
      rw [Int.natCast_emod, Int.toNat_of_nonneg (by omega)]
theorem placeOf_no {n : Nat} {a : Int} (h : (placeOf n a).2 ≠ 0) : (placeOf n a).1 = 0 ∧ ((placeOf n a).2 = 1 ∨ (placeOf n a).2 = 5) := by
  unfold placeOf at h ⊢
  split
  · exact ⟨rfl, .inl rfl⟩
  · split
    · exact ⟨rfl, .inr rfl⟩
    · rename_i h1 h2
      rw [if_neg h1, if_neg h2] at h
      exact absurd rfl h
set_option maxHeartbeats 1000000 in
theorem wire_Pass (w : World) (S : Nat → Prop) (A : Option Addr) (c : Nat) (L : List (List UInt8)) (a : Int) (hL : Rd2 w S A L) (hc : L.length ≤ c) (h2 : L.length ≤ 140737488355328) (h3 : ∀ x ∈ L, x.length ≤ 140737488355328) :
    Calls Try.prog 12 #[.agg #[.slice A L.length c], .int .i64 a] w (TwoRowsB (passOf L a) S w) := by
  by_cases h0 : (placeOf L.length a).2 = 0
  · obtain ⟨hn, hp, ha, hk⟩ := placeOf_ok h0
    obtain ⟨k, hkk⟩ : ∃ k, k = a.toNat % L.length := ⟨_, rfl⟩
    have hkl : k < L.length := by rw [hkk]; exact Nat.mod_lt _ hp
    rw [← hkk] at hk
    have hq : placeOf L.length a = ((k : Int), 0) := Prod.ext hk h0
    have e1 : passOf L a = (L.eraseIdx k, L[k], 0) := by unfold passOf; rw [if_pos h0, hk, Int.toNat_natCast, List.getD_eq_getElem?_getD, List.getElem?_eq_getElem hkl]; rfl
    rw [e1]
    obtain ⟨ad, A', c', rfl, hcell, hcc, hrd⟩ := hL.at_ hkl
    have h3k := h3 _ (List.getElem_mem hkl)
    obtain ⟨vs, hvs, hes⟩ := hL.lt
    have HV := Sealed.mk hvs
    have HE := Sealed.mk hes
    have HR := Sealed.mk hrd
    have HC := Sealed.mk hcell
    have HQ := Sealed.mk hq
    clear hvs hes hrd hcell hq e1 hk h0 hkk h3 hp ha
    go_enter Try.func12, Try.ntmps12
    go_wp2_with (first
      | (go_at_call 39; refine (wire_place _ _ _ _ _ h2 _ HQ.out).mono ?_; rintro e w1 ⟨rfl, hb1⟩; obtain ⟨q1, q2, q3, q4⟩ := two_cells hb1 (Below.refl _ _); have hcell := cell_below (below_two hb1) HC.out)
      | (go_at_call 38; refine (clone_u8 _ _ _ _ _ _ (HR.out.below (below_two hb1)) (bv_one _) (by omega)).mono ?_; rintro e w2 ⟨A2, c2, rfl, hcc2, ho2, hb2⟩; obtain ⟨q1, q2, q3, q4⟩ := two_cells hb1 hb2)
      | (go_at_call 37; refine (clone_rows _ _ _ _ _ _ (HV.out.below (below_next (below_two hb1) hb2)) (all2_one HE.out) (by omega)).mono ?_; rintro e w3 ⟨A3, c3, rfl, hcc3, ho3, hb3⟩; obtain ⟨q1, q2, q3, q4⟩ := two_cells hb1 (below_next hb2 hb3); rcases own_row ho3 with ⟨_, hz, _⟩ | ⟨g, cap, he, hg, hgl, hrow⟩; exact absurd hz (by omega); injection he with he1 he2 he3; subst he1; subst he3)
      | (go_at_call 40; refine (del_rows _ _ _ _ _ hrow (all2_one HE.out) k hkl).mono ?_; rintro e w4 ⟨rfl, hrow4, hg4⟩; have hb4 : Below w1.heap.size w1 w4 := (below_next hb2 hb3).grown hg4 (below_next hb2 hb3).size (fun _ hk => by injection hk with hk; subst hk; exact Nat.le_trans hb2.size hg); obtain ⟨q1, q2, q3, q4⟩ := two_cells hb1 hb4))
    have hz2 := hb2.size
    have hzz : w.heap.size + 2 ≤ w1.heap.size := by have := hb1.size; simp at this; omega
    have hB4 : Below w.heap.size w w4 := below_next (below_two hb1) hb4
    have hB : Below w.heap.size w ((w4.setCell ⟨w.heap.size, 0, none⟩ (.slice (some ⟨g, 0, none⟩) (L.length - 1) c3)).setCell ⟨w.heap.size + 1, 0, none⟩ (.slice (some ⟨g, 0, none⟩) (L.length - 1) c3)) := (hB4.setCell (by simp) _).setCell (by simp) _
    have o4 := ownsRow_setCell_below (ownsRow_setCell_below (hrow4.own (Nat.le_trans hz2 hg)) (a := ⟨w.heap.size, 0, none⟩) (by simp; omega) (.slice (some ⟨g, 0, none⟩) (L.length - 1) c3)) (a := ⟨w.heap.size + 1, 0, none⟩) (by simp; omega) (.slice (some ⟨g, 0, none⟩) (L.length - 1) c3)
    have o2 := ownsRow_setCell_below (ownsRow_setCell_below ((own_below ho2 hb3).kept hg4 (own_elder ho2 hg)) (a := ⟨w.heap.size, 0, none⟩) (by simp; omega) (.slice (some ⟨g, 0, none⟩) (L.length - 1) c3)) (a := ⟨w.heap.size + 1, 0, none⟩) (by simp; omega) (.slice (some ⟨g, 0, none⟩) (L.length - 1) c3)
    have hel : (L.eraseIdx k).length = L.length - 1 := by rw [List.length_eraseIdx, if_pos hkl]
    refine bodyPost_ret (v := .tuple #[.agg #[.slice (some ⟨g, 0, none⟩) (L.eraseIdx k).length c3], .slice A2 L[k].length c2, .int .i64 0]) (by simp [results, Try.results12, go_sem, q1, q2, hel]) rfl ⟨_, _, _, _, rfl, (by show (L.eraseIdx k).length ≤ c3; omega), ?_, hcc2, (Rd.of_own o2).more (fun k hk => .inr (by omega)), hB⟩
    obtain ⟨A9, c9, he, _, hr⟩ := Rd2.of_own' (S := Later S w) (L := L.eraseIdx k) o4 (by
      rw [List.eraseIdx_eq_take_drop_succ]
      exact ((HE.out.imp fun _ _ h => (h.below hB).more fun _ hk => .inl hk).take k).append ((HE.out.imp fun _ _ h => (h.below hB).more fun _ hk => .inl hk).drop (k + 1))) (fun k hk => .inr (by omega))
    injection he with he
    subst he
    exact hr
  · have e1 : passOf L a = (L, [], (placeOf L.length a).2) := by unfold passOf; rw [if_neg h0]
    have h7 : ((placeOf L.length a).2 != 0) = true := by simpa using h0
    generalize hq : placeOf L.length a = q at *
    rw [e1]
    have HL := Sealed.mk hL
    have HQ := Sealed.mk hq
    clear hL e1 hq h0
    go_enter Try.func12, Try.ntmps12
    go_wp2_with (go_at_call 39; refine (wire_place _ _ _ _ _ h2 q HQ.out).mono ?_; rintro e w1 ⟨rfl, hb1⟩; obtain ⟨q1, q2, q3, q4⟩ := two_cells hb1 (Below.refl _ _))
    refine bodyPost_ret (v := .tuple #[.agg #[.slice A L.length c], .slice none 0 0, .int .i64 q.2]) (by simp [results, Try.results12, go_sem, q1, q2]) rfl ⟨A, c, none, 0, rfl, hc, HL.out.later (below_set2 hb1), Nat.le_refl _, Rd.none_, below_set2 hb1⟩
def twiceOf (L : List (List UInt8)) (a : Int) : List (List UInt8) × Int :=
  if (placeOf L.length a).2 = 0 then putOf L (L.getD (placeOf L.length a).1.toNat []) else (L, (placeOf L.length a).2)
set_option maxHeartbeats 1000000 in
theorem wire_Twice (w : World) (S : Nat → Prop) (A : Option Addr) (c : Nat) (L : List (List UInt8)) (a : Int) (hL : Rd2 w S A L) (hc : L.length ≤ c) (h2 : L.length ≤ 140737488355328) (h3 : ∀ x ∈ L, x.length ≤ 140737488355328) :
    Calls Try.prog 14 #[.agg #[.slice A L.length c], .int .i64 a] w (TwoRows (twiceOf L a) S w) := by
  by_cases h0 : (placeOf L.length a).2 = 0
  · obtain ⟨hn, hp, ha, hk⟩ := placeOf_ok h0
    obtain ⟨k, hkk⟩ : ∃ k, k = a.toNat % L.length := ⟨_, rfl⟩
    have hkl : k < L.length := by rw [hkk]; exact Nat.mod_lt _ hp
    rw [← hkk] at hk
    have hq : placeOf L.length a = ((k : Int), 0) := Prod.ext hk h0
    have e1 : twiceOf L a = putOf L L[k] := by unfold twiceOf; rw [if_pos h0, hk, Int.toNat_natCast, List.getD_eq_getElem?_getD, List.getElem?_eq_getElem hkl]; rfl
    rw [e1]
    generalize hr : putOf L L[k] = r
    obtain ⟨ad, A', c', rfl, hcell, hcc, hrd⟩ := hL.at_ hkl
    have h3k := h3 _ (List.getElem_mem hkl)
    have HL := Sealed.mk hL.lt
    have HR := Sealed.mk hrd
    have HC := Sealed.mk hcell
    have HQ := Sealed.mk hq
    have HP := Sealed.mk hr
    clear hrd hcell hq e1 hk h0 hkk h3 hp ha hL hr
    go_enter Try.func14, Try.ntmps14
    go_wp2_with (go_at_call 39; refine (wire_place _ _ _ _ _ h2 _ HQ.out).mono ?_; rintro e w1 ⟨rfl, hb1⟩; obtain ⟨q1, q2, q3, q4⟩ := two_cells hb1 (Below.refl _ _); have hcell := cell_below (below_two hb1) HC.out)
    have hbd : Below w.heap.size w w1.drew := (below_two hb1).drew
    have hne2 : (⟨w.heap.size + 1, 0, none⟩ : Addr) ≠ ⟨w.heap.size, 0, none⟩ := by simp
    have hne : (⟨w.heap.size + 1, 0, none⟩ : Addr) ≠ ad.add k := by intro he; have hl := World.block_lt_of_cell? w _ HC.out; rw [← he] at hl; simp at hl; omega
    go_region_held3 (fun w' => w'.cell? ⟨w.heap.size, 0, none⟩ = some (.slice (some ad) L.length c) ∧ w'.cell? (ad.add k) = some (.slice A' L[k].length c'))
      (first | (refine ⟨?_, ?_⟩ <;> assumption) | (refine ⟨?_, ?_⟩ <;> first | (rw [World.cell?_setCell_other _ _ _ _ hne]; assumption) | (rw [World.cell?_setCell_other _ _ _ _ hne2]; assumption)))
      (first | (go_at_call 10; refine (wire_Put _ _ _ _ L _ _ L[k] (HL.out.below hbd) hc (HR.out.below hbd).any hcc h2 h3k).mono ?_; rw [HP.out]; rintro e w2 ⟨A2, c2, rfl, hcc2, hr2, hb2⟩; obtain ⟨q1, q2, q3, q4⟩ := two_cells hb1 (Below.trans (Below.refl _ _).drew hb2); have hcell := cell_below hb2 hcell))
    go_wp2
    have hzz : w.heap.size + 2 ≤ w1.heap.size := by have := hb1.size; simp at this; omega
    have hB2 : Below w.heap.size w w2 := hbd.trans (hb2.mono (by have := hbd.size; exact this))
    have hB : Below w.heap.size w (w2.setCell ⟨w.heap.size + 1, 0, none⟩ (.slice A2 r.1.length c2)) := hB2.setCell (by simp) _
    refine bodyPost_ret (v := .tuple #[.agg #[.slice A2 r.1.length c2], .int .i64 r.2]) (by simp [results, Try.results14, go_sem, q2]) rfl ⟨A2, c2, rfl, hcc2, ?_, hB⟩
    refine (hr2.set_ (p := ⟨w.heap.size + 1, 0, none⟩) (fun j hj => ?_) _).more fun j hj => ?_
    · rcases hj with ⟨⟨_, hj⟩, _⟩ | hj
      · show j ≠ w.heap.size + 1; omega
      · have hj : w1.heap.size ≤ j := hj; show j ≠ w.heap.size + 1; omega
    · rcases hj with ⟨hj, _⟩ | hj
      · exact .inl hj
      · have hj : w1.heap.size ≤ j := hj; exact .inr (by omega)
  · have e1 : twiceOf L a = (L, (placeOf L.length a).2) := by unfold twiceOf; rw [if_neg h0]
    have h7 : ((placeOf L.length a).2 != 0) = true := by simpa using h0
    generalize hq : placeOf L.length a = q at *
    rw [e1]
    have HL := Sealed.mk hL
    have HQ := Sealed.mk hq
    clear hL e1 hq h0
    go_enter Try.func14, Try.ntmps14
    go_wp2_with (go_at_call 39; refine (wire_place _ _ _ _ _ h2 q HQ.out).mono ?_; rintro e w1 ⟨rfl, hb1⟩; obtain ⟨q1, q2, q3, q4⟩ := two_cells hb1 (Below.refl _ _))
    refine bodyPost_ret (v := .tuple #[.agg #[.slice A L.length c], .int .i64 q.2]) (by simp [results, Try.results14, go_sem, q1, q2]) rfl ⟨A, c, rfl, hc, HL.out.later (below_set2 hb1), below_set2 hb1⟩
end Go.Proofs.Ytkpabmhijpnchaa

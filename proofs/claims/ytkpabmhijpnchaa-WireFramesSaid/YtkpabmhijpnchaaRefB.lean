/- The references of layer 19. -/
import Derived.Test.YtkpabmhijpnchaaWireC
import Derived.Test.YtkpabmhijpnchaaRefA
set_option linter.unusedVariables false
set_option linter.unusedSimpArgs false
namespace Go.Proofs.Ytkpabmhijpnchaa
open Go.RowKit
theorem ref19_wrong (w : World) (A : Option Addr) (n c : Nat) (a : Int) (h2 : n ≤ 140737488355328) (r : Int) (h : (placeOf n a).2 = r) :
    Calls Try.prog 41 #[.agg #[.slice A n c], .int .i64 a] w fun e w' => e = .returned (.int .i64 r) ∧ Below w.heap.size w w' := by
  unfold placeOf at h
  by_cases h1 : 200 < n
  · rw [if_pos (.inl h1)] at h
    subst h
    have g1 : decide ((200 : Int) < (n : Int)) = true := by simp; omega
    go_enter Try.func41, Try.ntmps41
    go_wp2
    go_ret
    exact ⟨rfl, (Below.refl _ _).alloc (Nat.le_refl _) _⟩
  · have g1 : decide ((200 : Int) < (n : Int)) = false := by simp; omega
    have g1' : decide (200 < n) = false := by simp; omega
    by_cases h3 : a < 0
    · rw [if_pos (.inr h3)] at h
      subst h
      go_enter Try.func41, Try.ntmps41
      go_wp2
      go_ret
      exact ⟨rfl, (Below.refl _ _).alloc (Nat.le_refl _) _⟩
    · have g2 : decide (a < 0) = false := by simp; omega
      rw [if_neg (by omega)] at h
      by_cases h4 : n = 0
      · subst h4
        simp at h
        subst h
        go_enter Try.func41, Try.ntmps41
        go_wp2
        go_ret
        exact ⟨rfl, (Below.refl _ _).alloc (Nat.le_refl _) _⟩
      · rw [if_neg h4] at h
        subst h
        have h5 : ((n : Int) == 0) = false := by simp; omega
        go_enter Try.func41, Try.ntmps41
        go_wp2
        go_ret
        exact ⟨rfl, (Below.refl _ _).alloc (Nat.le_refl _) _⟩
theorem ref19_Same (w : World) (A : Option Addr) (c : Nat) (L : List (List UInt8)) (B : Option Addr) (d : Nat) (M : List (List UInt8)) (hL : Rd2 w Anywhere A L) (hM : Rd2 w Anywhere B M) (h1 : L.length ≤ 140737488355328) (h2 : M.length ≤ 140737488355328) (b : Bool) (hb : decide (L = M) = b) :
    Calls Try.prog 17 #[.agg #[.slice A L.length c], .agg #[.slice B M.length d]] w fun e w' => e = .returned (.bool b) ∧ Below w.heap.size w w' := by
  have HL := Sealed.mk hL
  have HM := Sealed.mk hM
  have HB := Sealed.mk hb
  clear hL hM hb
  go_enter Try.func17, Try.ntmps17
  go_wp2_with (go_at_call 35; refine (ref05_Lists _ _ _ L _ _ M (HL.out.below (((Below.refl _ _).alloc (Nat.le_refl _) _).alloc (by simp) _)) (HM.out.below (((Below.refl _ _).alloc (Nat.le_refl _) _).alloc (by simp) _)) h1 h2 b HB.out).mono ?_; rintro e w1 ⟨rfl, hb1⟩)
  go_ret
  exact ⟨rfl, below_two hb1⟩
theorem alloc2 (w : World) (o p : Obj) : Below w.heap.size w ((w.alloc o).alloc p) := ((Below.refl _ _).alloc (Nat.le_refl _) _).alloc (by simp) _
theorem alloc3 (w : World) (o p q : Obj) : Below w.heap.size w (((w.alloc o).alloc p).alloc q) := (alloc2 w o p).alloc (by simp; omega) _
set_option maxHeartbeats 1000000 in
theorem ref19_Put (w : World) (S : Nat → Prop) (A : Option Addr) (c : Nat) (L : List (List UInt8)) (B : Option Addr) (d : Nat) (b : List UInt8) (hL : Rd2 w S A L) (hc : L.length ≤ c) (hb : Rd w S 1 B b.length (bv b)) (hd : b.length ≤ d) (h2 : L.length ≤ 140737488355328) (h3 : b.length ≤ 140737488355328) :
    Calls Try.prog 11 #[.agg #[.slice A L.length c], .slice B b.length d] w (TwoRows (putOf L b) S w) := by
  by_cases h1 : 200 < L.length
  · have e1 : putOf L b = (L, 1) := by unfold putOf; rw [if_pos h1]
    rw [e1]
    clear e1
    have HL := Sealed.mk hL
    clear hL hb
    go_enter Try.func11, Try.ntmps11
    go_wp2
    refine bodyPost_ret (v := .tuple #[.agg #[.slice A L.length c], .int .i64 1]) (by simp [results, Try.results11, go_sem]) rfl ⟨A, c, rfl, hc, HL.out.later (alloc2 _ _ _), alloc2 _ _ _⟩
  · have g1 : decide ((200 : Int) < (L.length : Int)) = false := by simp; omega
    by_cases h6 : L.length = 200
    · have e1 : putOf L b = (L, 7) := by unfold putOf; rw [if_neg h1, if_pos h6]
      rw [e1]
      have HL := Sealed.mk hL
      have h7 : ((L.length : Int) == 200) = true := by simp; omega
      clear hL hb e1 h6
      go_enter Try.func11, Try.ntmps11
      go_wp2
      refine bodyPost_ret (v := .tuple #[.agg #[.slice A L.length c], .int .i64 7]) (by simp [results, Try.results11, go_sem]) rfl ⟨A, c, rfl, hc, HL.out.later (alloc2 _ _ _), alloc2 _ _ _⟩
    · have e1 : putOf L b = (L ++ [b], 0) := by unfold putOf; rw [if_neg h1, if_neg h6]
      rw [e1]
      obtain ⟨vs, hvs, hes⟩ := hL.lt
      have HV := Sealed.mk hvs
      have HE := Sealed.mk hes
      have HB := Sealed.mk (hb.lt (by omega))
      have HN := Sealed.mk (show (((w.alloc (.cells #[.slice A L.length c] 24)).alloc (.cells #[.slice none 0 0] 24)).alloc (.cells #[] 25)).ownsRow (w.heap.size + 2) 25 1 (.slice (some ⟨w.heap.size + 1 + 1, 0, none⟩) 0 0) 0 [] by have := own_new ((w.alloc (.cells #[.slice A L.length c] 24)).alloc (.cells #[.slice none 0 0] 24)) 25 1; simpa using this)
      have h7 : ((L.length : Int) == 200) = false := by simp; omega
      clear hL hvs hes hb e1 h6
      go_enter Try.func11, Try.ntmps11
      go_wp2_with (first
        | (at_builtin; (refine wpList_append_any _ rfl (.tmp 16) (.tmp 18) _ rfl (w.heap.size + 2) 25 _ 1 24 Try.underlying22 rows_info rfl (by omega) (.slice (some ⟨w.heap.size + 1 + 1, 0, none⟩) 0 0) 0 [] rfl HN.out _ A L.length c vs rfl (HV.out.below (alloc3 _ _ _ _)) (all2_one HE.out) ?h2 ?h3 ?h4 ?_); (case h2 => simp only [maxLen]; omega); (case h3 => omega); (case h4 => simp); intro A1 c1 w1 hc1 ho1 hg1 hat1; simp only [Nat.zero_add, List.nil_append] at ho1 hc1; have hb1 : Below (w.heap.size + 2) ((w.alloc (.cells #[.slice A L.length c] 24)).alloc (.cells #[.slice none 0 0] 24)) w1 := ((Below.refl _ _).alloc (by simp) _).grown hg1 (by simp) (fun k hk => by injection hk with hk; subst hk; simp); obtain ⟨q1, q2, q3, q4⟩ := two_cells (w1 := w1) (by simpa using hb1) (Below.refl _ _))
        | (at_builtin; (refine wpList_append_any _ rfl (.tmp 19) (.tmp 21) _ rfl (w.heap.size + 2) 25 _ 1 24 Try.underlying22 rows_info rfl (by omega) (.slice A1 L.length c1) L.length vs rfl (ho1.alloc _) Anywhere _ 1 1 [.slice B b.length d] rfl (Rd.boxed w1 _ _).any ?h1 ?h2 ?h3 ?h4 ?_); (case h1 => intro u hu; simp at hu; subst hu; rfl); (case h2 => simp only [maxLen]; omega); (case h3 => omega); (case h4 => have := hb1.size; simp at this; simp; omega); intro A2 c2 w2 hc2 ho2 hg2 hat2; have hb2 : Below (w.heap.size + 2) ((w.alloc (.cells #[.slice A L.length c] 24)).alloc (.cells #[.slice none 0 0] 24)) w2 := (hb1.alloc (by have := hb1.size; simpa using this) _).grown hg2 (by have := hb1.size; simp at this; simp; omega) (own_base ho1); obtain ⟨p1, p2, p3, p4⟩ := two_cells (w1 := w2) (by simpa using hb2) (Below.refl _ _)))
      have hB2 : Below w.heap.size w w2 := (alloc2 w _ _).trans (hb2.mono (by omega))
      have hB : Below w.heap.size w (w2.setCell ⟨w.heap.size + 1, 0, none⟩ (.slice A2 (L.length + 1) c2)) := hB2.setCell (by simp) _
      have o2 := ownsRow_setCell_below ho2 (a := ⟨w.heap.size + 1, 0, none⟩) (by simp) (.slice A2 (L.length + 1) c2)
      refine bodyPost_ret (v := .tuple #[.agg #[.slice A2 (L ++ [b]).length c2], .int .i64 0]) (by simp [results, Try.results11, go_sem, p2]) rfl ⟨A2, c2, rfl, by simpa using hc2, ?_, hB⟩
      obtain ⟨A', c', he, _, hr⟩ := Rd2.of_own' (S := Later S w) (L := L ++ [b]) o2 ((HE.out.imp fun _ _ h => (h.below hB).more fun _ hk => .inl hk).append ⟨⟨B, d, rfl, hd, (HB.out.below hB).more fun _ hk => .inl hk⟩, trivial⟩) (fun k hk => .inr (by omega))
      injection he with he
      subst he
      exact hr
/-- What of the first j stands, but the one at k. -/
def exc (k : Nat) (vs : List Value) (j : Nat) : List Value := (vs.take j).eraseIdx k
theorem exc_at {k j : Nat} {vs : List Value} (hj : j < vs.length) (h : j = k) : exc k vs (j + 1) = exc k vs j := by
  subst h
  unfold exc
  have hl : (vs.take j).length = j := by simp; omega
  rw [List.take_succ_eq_append_getElem hj, List.eraseIdx_append_of_length_le (by omega), hl, Nat.sub_self, List.eraseIdx_of_length_le (l := vs.take j) (by omega)]
  simp
theorem exc_next {k j : Nat} {vs : List Value} {u : Value} (hu : vs[j]? = some u) (h : j ≠ k) : exc k vs (j + 1) = exc k vs j ++ [u] := by
  obtain ⟨hj, rfl⟩ := List.getElem?_eq_some_iff.1 hu
  unfold exc
  rw [List.take_succ_eq_append_getElem hj]
  rcases Nat.lt_or_ge k j with hk | hk
  · rw [List.eraseIdx_append_of_lt_length (by simp; omega)]
  · rw [List.eraseIdx_of_length_le (by simp; omega), List.eraseIdx_of_length_le (by simp; omega)]
theorem exc_le (k : Nat) (vs : List Value) (j : Nat) : (exc k vs j).length ≤ j := by
  unfold exc
  exact Nat.le_trans (List.length_eraseIdx_le _ _) (List.length_take_le _ _)
set_option maxHeartbeats 1000000 in
theorem ref19_Pass (w : World) (S : Nat → Prop) (A : Option Addr) (c : Nat) (L : List (List UInt8)) (a : Int) (hL : Rd2 w S A L) (hc : L.length ≤ c) (h2 : L.length ≤ 140737488355328) :
    Calls Try.prog 13 #[.agg #[.slice A L.length c], .int .i64 a] w (TwoRowsB (passOf L a) S w) := by
  by_cases h0 : (placeOf L.length a).2 = 0
  · obtain ⟨hn, hp, ha, hk⟩ := placeOf_ok h0
    obtain ⟨k, hkk⟩ : ∃ k, k = a.toNat % L.length := ⟨_, rfl⟩
    have hkl : k < L.length := by rw [hkk]; exact Nat.mod_lt _ hp
    rw [← hkk] at hk
    have e1 : passOf L a = (L.eraseIdx k, L[k], 0) := by unfold passOf; rw [if_pos h0, hk, Int.toNat_natCast, List.getD_eq_getElem?_getD, List.getElem?_eq_getElem hkl]; rfl
    rw [e1]
    have hmod : a.tmod (L.length : Int) = (k : Int) := by rw [Int.tmod_eq_emod_of_nonneg ha, hkk, Int.natCast_emod, Int.toNat_of_nonneg ha]
    have hmod' : a % (L.length : Int) = (k : Int) := by rw [hkk, Int.natCast_emod, Int.toNat_of_nonneg ha]
    have HL := Sealed.mk hL.lt
    have HW := Sealed.mk h0
    clear hL e1 hk h0 hkk
    go_enter Try.func13, Try.ntmps13
    go_wp2_with (go_at_call 41; refine (ref19_wrong _ _ _ _ _ h2 0 HW.out).mono ?_; rintro e w1 ⟨rfl, hb1⟩; obtain ⟨q1, q2, q3, q4⟩ := two_cells hb1 (Below.refl _ _))
    obtain ⟨ad, A', c', rfl, hcell0, hcc, hrd0⟩ := HL.out.at_ hkl
    have HRD := Sealed.mk hrd0
    have HC := Sealed.mk hcell0
    clear hcell0 hrd0
    obtain ⟨vs, hvs, hes⟩ := HL.out
    have HV := Sealed.mk hvs
    have HE := Sealed.mk hes
    have hvl : vs.length = L.length := by have := hvs.1; omega
    clear hvs hes HL
    have hzz : w.heap.size + 2 ≤ w1.heap.size := by have := hb1.size; simp at this; omega
    go_loopw [9, 10] (fun v i wr => ∃ j A1 c1, j ≤ L.length ∧ i = .int .i64 (j : Nat) ∧ v = .slice A1 (exc k vs j).length c1 ∧ Sealed (wr.ownsRow w1.heap.size 25 1 v (exc k vs j).length (exc k vs j)) ∧ Below w1.heap.size w1 wr) (fun _ i _ => L.length - (intOf i).toNat)
    case atStart => exact ⟨0, none, 0, Nat.zero_le _, rfl, rfl, ⟨World.ownsRow_nil _ _ _ _⟩, Below.refl _ _⟩
    case round =>
      obtain ⟨j, A1, c1, hj, rfl, rfl, hown, hbr⟩ := hrel
      obtain ⟨q1, q2, q3, q4⟩ := two_cells hb1 hbr
      by_cases hlt : j < L.length
      · have hbw : Below w.heap.size w wr := below_next (below_two hb1) hbr
        obtain ⟨bd, u, he, _, hu, hcu⟩ := (HV.out.below hbw).at_ hlt
        injection he with he
        subst he
        obtain ⟨u', hu', A3, c3, rfl, _, _⟩ := HE.out.get j L[j] (List.getElem?_eq_getElem hlt)
        rw [hu] at hu'
        injection hu' with hu'
        subst hu'
        by_cases hjk : j = k
        · have g1 : ((j : Int) != (k : Int)) = false := by simp [hjk]
          have g2 : exc k vs (j + 1) = exc k vs j := exc_at (by omega) hjk
          have HG := Sealed.mk g2
          clear g2 hjk
          go_wp2
          go_roundw
          case rel => exact ⟨j + 1, A1, c1, by omega, by go_num, by rw [HG.out], by rw [HG.out]; exact hown, hbr⟩
          case measure => simp [intOf]; omega
        · have g1 : ((j : Int) != (k : Int)) = true := by simp; omega
          have g2 : exc k vs (j + 1) = exc k vs j ++ [.slice A3 L[j].length c3] := exc_next hu hjk
          have hle : (exc k vs j).length ≤ j := exc_le k vs j
          have HG := Sealed.mk g2
          have HU := Sealed.mk hu
          clear g2 hjk hu
          go_wp2_with (at_builtin; refine wpList_append_any _ rfl (.tmp 33) (.tmp 39) _ rfl w1.heap.size 25 _ 1 24 Try.underlying22 rows_info rfl (by omega) (.slice A1 (exc k vs j).length c1) (exc k vs j).length _ rfl (hown.out.alloc _) Anywhere _ 1 1 [.slice A3 L[j].length c3] rfl (Rd.boxed wr _ _).any ?h1 ?h2 ?h3 ?h4 ?_; (case h1 => intro u hu; simp at hu; subst hu; rfl); (case h2 => simp only [maxLen]; omega); (case h3 => omega); (case h4 => have := hbr.size; simp; omega); intro A5 c5 w5 hc5 ho5 hg5 hat5; have hb5 : Below w1.heap.size w1 w5 := (hbr.alloc hbr.size _).grown hg5 (by have := hbr.size; simp; omega) (own_base hown.out))
          go_roundw
          case rel => exact ⟨j + 1, A5, c5, by omega, by go_num, by rw [HG.out]; simp, by rw [HG.out]; simp only [List.length_append, List.length_cons, List.length_nil]; exact ⟨ho5⟩, hb5⟩
          case measure => simp [intOf]; omega
      · obtain rfl : j = L.length := by omega
        have g2 : exc k vs L.length = vs.eraseIdx k := by unfold exc; rw [List.take_of_length_le (by omega)]
        have g3 : (vs.eraseIdx k).length = L.length - 1 := by rw [List.length_eraseIdx, if_pos (by omega), hvl]
        rw [g2, g3] at hown
        simp only [g2, g3]
        clear g2
        have hbw : Below w.heap.size w wr := below_next (below_two hb1) hbr
        have hcell := cell_below hbw HC.out
        have hne : (⟨w.heap.size + 1, 0, none⟩ : Addr) ≠ ad.add k := by intro he; have hl := World.block_lt_of_cell? w _ HC.out; rw [← he] at hl; simp at hl; omega
        have hcs := fun u => (World.cell?_setCell_other wr ⟨w.heap.size + 1, 0, none⟩ (ad.add k) u hne).trans hcell
        go_wp2
        go_region
        go_wp2
        have hel : (L.eraseIdx k).length = L.length - 1 := by rw [List.length_eraseIdx, if_pos (by omega)]
        have hB : Below w.heap.size w ((wr.setCell ⟨w.heap.size + 1, 0, none⟩ (.slice A1 (L.length - 1) c1)).drew) := (hbw.setCell (by simp) _).drew
        have o2 := ownsRow_setCell_below hown.out (a := ⟨w.heap.size + 1, 0, none⟩) (by simp; omega) (.slice A1 (L.length - 1) c1)
        obtain ⟨A9, c9, he, hc9⟩ := own_slice o2
        injection he with he1 _ he2
        subst he1; subst he2
        refine bodyPost_ret (v := .tuple #[.agg #[.slice A1 (L.eraseIdx k).length c1], .slice A' L[k].length c', .int .i64 0]) (by simp [results, Try.results13, go_sem, q2, hel]) rfl ⟨_, _, _, _, rfl, (by show (L.eraseIdx k).length ≤ c1; omega), ?_, hcc, (HRD.out.below hB).more (fun j hj => .inl hj), hB⟩
        obtain ⟨A9, c9, he, _, hr⟩ := Rd2.of_own' (S := Later S w) (L := L.eraseIdx k) (w := (wr.setCell ⟨w.heap.size + 1, 0, none⟩ (.slice A1 (L.length - 1) c1)).drew) o2 (by
          rw [List.eraseIdx_eq_take_drop_succ, List.eraseIdx_eq_take_drop_succ]
          exact ((HE.out.imp fun _ _ h => (h.below hB).more fun _ hk => .inl hk).take k).append ((HE.out.imp fun _ _ h => (h.below hB).more fun _ hk => .inl hk).drop (k + 1))) (fun j hj => .inr (by omega))
        injection he with he1 _ he2
        subst he1; subst he2
        exact hr
  · have e1 : passOf L a = (L, [], (placeOf L.length a).2) := by unfold passOf; rw [if_neg h0]
    have h7 : ((placeOf L.length a).2 != 0) = true := by simpa using h0
    generalize hq : (placeOf L.length a).2 = q at *
    rw [e1]
    have HL := Sealed.mk hL
    have HQ := Sealed.mk hq
    clear hL e1 hq h0
    go_enter Try.func13, Try.ntmps13
    go_wp2_with (go_at_call 41; refine (ref19_wrong _ _ _ _ _ h2 q HQ.out).mono ?_; rintro e w1 ⟨rfl, hb1⟩; obtain ⟨q1, q2, q3, q4⟩ := two_cells hb1 (Below.refl _ _))
    refine bodyPost_ret (v := .tuple #[.agg #[.slice A L.length c], .slice none 0 0, .int .i64 q]) (by simp [results, Try.results13, go_sem, q1, q2]) rfl ⟨A, c, none, 0, rfl, hc, HL.out.later (below_set2 hb1), Nat.le_refl _, Rd.none_, below_set2 hb1⟩
set_option maxHeartbeats 1000000 in
theorem ref19_Twice (w : World) (S : Nat → Prop) (A : Option Addr) (c : Nat) (L : List (List UInt8)) (a : Int) (hL : Rd2 w S A L) (hc : L.length ≤ c) (h2 : L.length ≤ 140737488355328) (h3 : ∀ x ∈ L, x.length ≤ 140737488355328) :
    Calls Try.prog 15 #[.agg #[.slice A L.length c], .int .i64 a] w (TwoRows (twiceOf L a) S w) := by
  by_cases h0 : (placeOf L.length a).2 = 0
  · obtain ⟨hn, hp, ha, hk⟩ := placeOf_ok h0
    obtain ⟨k, hkk⟩ : ∃ k, k = a.toNat % L.length := ⟨_, rfl⟩
    have hkl : k < L.length := by rw [hkk]; exact Nat.mod_lt _ hp
    rw [← hkk] at hk
    have e1 : twiceOf L a = putOf L L[k] := by unfold twiceOf; rw [if_pos h0, hk, Int.toNat_natCast, List.getD_eq_getElem?_getD, List.getElem?_eq_getElem hkl]; rfl
    rw [e1]
    generalize hr : putOf L L[k] = r
    have hmod' : a % (L.length : Int) = (k : Int) := by rw [hkk, Int.natCast_emod, Int.toNat_of_nonneg ha]
    have hmod : a.tmod (L.length : Int) = (k : Int) := by rw [Int.tmod_eq_emod_of_nonneg ha, hmod']
    have hnil : ¬ L = [] := by intro e; subst e; simp at hp
    have hnz2 : ¬ (L.length : Int) = 0 := by omega
    have hw : IntKind.i64.wrap (a.tmod (L.length : Int)) = (k : Int) := by rw [hmod]; exact IntWalk.i64_in _ (by omega)
    have hrem : ∀ W, (binOp .rem 3 (.int .i64 a) (.int .i64 (L.length : Int))).run Try.prog W = .ok (.int .i64 (k : Int)) W := fun W => by simp [go_sem, hnil, hmod]
    have hk0 : (0 : Int) ≤ (k : Int) := by omega
    have hk1 : (k : Int) < (L.length : Int) := by omega
    obtain ⟨ad, A', c', rfl, hcell, hcc, hrd⟩ := hL.lt.at_ hkl
    have h3k := h3 _ (List.getElem_mem hkl)
    have HL := Sealed.mk hL.lt
    have HR := Sealed.mk hrd
    have HC := Sealed.mk hcell
    have HQ := Sealed.mk h0
    have HP := Sealed.mk hr
    clear hrd hcell e1 hk h0 hkk h3 hL hr
    go_enter Try.func15, Try.ntmps15
    go_wp2_with (go_at_call 41; refine (ref19_wrong _ _ _ _ _ h2 0 HQ.out).mono ?_; rintro e w1 ⟨rfl, hb1⟩; obtain ⟨q1, q2, q3, q4⟩ := two_cells hb1 (Below.refl _ _); have hcell := cell_below (below_two hb1) HC.out)
    have hbd : Below w.heap.size w w1.drew := (below_two hb1).drew
    have hne2 : (⟨w.heap.size + 1, 0, none⟩ : Addr) ≠ ⟨w.heap.size, 0, none⟩ := by simp
    have hne : (⟨w.heap.size + 1, 0, none⟩ : Addr) ≠ ad.add k := by intro he; have hl := World.block_lt_of_cell? w _ HC.out; rw [← he] at hl; simp at hl; omega
    go_region_held3 (fun w' => w'.cell? ⟨w.heap.size, 0, none⟩ = some (.slice (some ad) L.length c) ∧ w'.cell? (ad.add k) = some (.slice A' L[k].length c'))
      (first | (refine ⟨?_, ?_⟩ <;> assumption) | (refine ⟨?_, ?_⟩ <;> first | (rw [World.cell?_setCell_other _ _ _ _ hne]; assumption) | (rw [World.cell?_setCell_other _ _ _ _ hne2]; assumption)))
      (first | (go_at_call 11; refine (ref19_Put _ _ _ _ L _ _ L[k] (HL.out.below hbd) hc (HR.out.below hbd) hcc h2 h3k).mono ?_; rw [HP.out]; rintro e w2 ⟨A2, c2, rfl, hcc2, hr2, hb2⟩; obtain ⟨q1, q2, q3, q4⟩ := two_cells hb1 (Below.trans (Below.refl _ _).drew hb2); have hcell := cell_below hb2 hcell))
    go_wp2
    have hzz : w.heap.size + 2 ≤ w1.heap.size := by have := hb1.size; simp at this; omega
    have hB2 : Below w.heap.size w w2 := hbd.trans (hb2.mono (by have := hbd.size; exact this))
    have hB : Below w.heap.size w (w2.setCell ⟨w.heap.size + 1, 0, none⟩ (.slice A2 r.1.length c2)) := hB2.setCell (by simp) _
    refine bodyPost_ret (v := .tuple #[.agg #[.slice A2 r.1.length c2], .int .i64 r.2]) (by simp [results, Try.results15, go_sem, q2]) rfl ⟨A2, c2, rfl, hcc2, ?_, hB⟩
    refine (hr2.set_ (p := ⟨w.heap.size + 1, 0, none⟩) (fun j hj => ?_) _).more fun j hj => ?_
    · rcases hj with ⟨⟨_, hj⟩, _⟩ | hj
      · show j ≠ w.heap.size + 1; omega
      · have hj : w1.heap.size ≤ j := hj; show j ≠ w.heap.size + 1; omega
    · rcases hj with ⟨hj, _⟩ | hj
      · exact .inl hj
      · have hj : w1.heap.size ≤ j := hj; exact .inr (by omega)
  · have e1 : twiceOf L a = (L, (placeOf L.length a).2) := by unfold twiceOf; rw [if_neg h0]
    have h7 : ((placeOf L.length a).2 != 0) = true := by simpa using h0
    generalize hq : (placeOf L.length a).2 = q at *
    rw [e1]
    have HL := Sealed.mk hL
    have HQ := Sealed.mk hq
    clear hL e1 hq h0
    go_enter Try.func15, Try.ntmps15
    go_wp2_with (go_at_call 41; refine (ref19_wrong _ _ _ _ _ h2 q HQ.out).mono ?_; rintro e w1 ⟨rfl, hb1⟩; obtain ⟨q1, q2, q3, q4⟩ := two_cells hb1 (Below.refl _ _))
    refine bodyPost_ret (v := .tuple #[.agg #[.slice A L.length c], .int .i64 q]) (by simp [results, Try.results15, go_sem, q1, q2]) rfl ⟨A, c, rfl, hc, HL.out.later (below_set2 hb1), below_set2 hb1⟩
end Go.Proofs.Ytkpabmhijpnchaa

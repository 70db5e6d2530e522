/- Packed by pack.py (this session's own program): texts of the kit's printer and of my own, what is not used struck. -/
import Derived.Test.YtkgkemihhfipaaaDoorREvA
import Derived.Test.YtkgkemihhfipaaaDoorRLabel
import Derived.BigQuiet
set_option linter.unusedVariables false
set_option linter.unusedSimpArgs false
set_option linter.unusedSectionVars false
namespace Go.Proofs.YtkgkemihhfipaaaDoor.HK
open Go.RowKit Go.Proofs.YtkgkemihhfipaaaDoorW.PrintWords Go.Proofs.YtkgkemihhfipaaaDoorW.PrintLast Go.Proofs.YtkgkemihhfipaaaDoorW.PrintMore
variable [paydeskref07_Order.Has]
theorem take_all {s : ByteArray} {i : Nat} (h : i < s.size) (ha : (s.data.toList.take i).all dig = true) (hd : dig (s.data.toList[i]'(by rw [Array.length_toList]; exact h)) = true) : (s.data.toList.take (i + 1)).all dig = true := by
  rw [List.take_succ_eq_append_getElem (by rw [Array.length_toList]; exact h), List.all_append, ha, List.all_cons, hd]
  rfl
theorem not_all {s : ByteArray} {i : Nat} (h : i < s.size) (hd : dig (s.data.toList[i]'(by rw [Array.length_toList]; exact h)) = false) : isB s = false := by
  unfold isB
  have : s.data.toList.all dig = false := List.all_eq_false.2 ⟨_, List.getElem_mem _, by rw [hd]; simp⟩
  rw [this]; rfl
set_option maxHeartbeats 4000000 in
theorem digIs (s : ByteArray) (hs : s.size ≤ 400) (w : World) : Calls Tryd.prog 65 #[.string s] w fun e w' => e = .returned (.bool (isB s)) ∧ w = w' := by
  go_enter Tryd.func65, Tryd.ntmps65
  go_wp2
  refine wp_scope_label 0 (fun a' w' => ∃ (i : Nat) (n : Int) (u4 u5 u6 u7 u8 u9 u10 u11 u12 u13 u14 u15 u16 u17 u18 u19 u20 u21 : Value), a' = { tmps := #[.string s, undef, .bool false, .int .i64 n, u4, u5, u6, u7, u8, u9, u10, u11, u12, u13, u14, u15, u16, u17, u18, u19, u20, u21], defers := [] } ∧ n = (i : Int) ∧ i ≤ s.size ∧ Sealed0 ((s.data.toList.take i).all dig = true) ∧ w = w') (fun a' _ => s.size - (slotInt a' 3).toNat) rfl ?_ ?_
  · rintro J' a1 w1 ⟨i, n, u4, u5, u6, u7, u8, u9, u10, u11, u12, u13, u14, u15, u16, u17, u18, u19, u20, u21, rfl, rfl, hi, hall, rfl⟩ hJ
    by_cases hlt : i < s.size
    · have g1 : ((i : Int) == (s.size : Int)) = false := by simp; omega
      have hb : ∃ c, s.data.toList[i]'(by rw [Array.length_toList]; exact hlt) = c := ⟨_, rfl⟩
      obtain ⟨c, hc⟩ := hb
      have hc' : s[i] = c := hc
      have HC := Sealed0.mk hc
      have hx := c.toNat_lt
      clear hc
      by_cases h1 : c.toNat < 48
      · have g2 : decide ((c.toNat : Int) < 48) = true := by simp; omega
        go_wp2
        simp only [Exit.jump]
        go_ret
        refine ⟨?_, rfl⟩
        rw [not_all hlt (by rw [HC.out]; unfold dig; rw [decide_eq_false (by omega)]; rfl)]
        rfl
      · have g2 : decide ((c.toNat : Int) < 48) = false := by simp; omega
        by_cases h2 : 57 < c.toNat
        · have g3 : decide (57 < (c.toNat : Int)) = true := by simp; omega
          go_wp2
          simp only [Exit.jump]
          go_ret
          refine ⟨?_, rfl⟩
          rw [not_all hlt (by rw [HC.out]; unfold dig; rw [decide_eq_false (show ¬ c.toNat ≤ 57 by omega), Bool.and_false])]
          rfl
        · have g3 : decide (57 < (c.toNat : Int)) = false := by simp; omega
          go_wp2
          go_step3
          refine ⟨rfl, hJ _ _ ⟨i + 1, _, _, _, _, _, _, _, _, _, _, _, _, _, _, _, _, _, _, _, rfl, by omega, by omega, ⟨take_all hlt hall.out (by rw [HC.out]; unfold dig; rw [decide_eq_true (by omega), decide_eq_true (by omega)]; rfl)⟩, rfl⟩ ?_⟩
          simp [slotInt]
          omega
    · obtain rfl : i = s.size := by omega
      have ha := hall.out
      rw [List.take_of_length_le (by rw [Array.length_toList]; exact Nat.le_refl _)] at ha
      have e1 : isB s = decide (0 < s.size) := by unfold isB; rw [ha, Bool.true_and]
      have E1 := Sealed0.mk e1
      clear ha e1
      go_wp2
      simp only [Exit.jump]
      go_ret
      refine ⟨?_, rfl⟩
      rw [E1.out]
      first | rfl | (congr 2; rw [Bool.eq_iff_iff]; simp)
  · intro go
    go_wp2
    go_step3
    rename_i hK
    exact hK _ _ (go _ _ ⟨0, 0, _, _, _, _, _, _, _, _, _, _, _, _, _, _, _, _, _, _, rfl, rfl, Nat.zero_le _, ⟨rfl⟩, rfl⟩)
theorem digSum (ds : List (Fin 10)) (s : ByteArray) (hs : s.data.toList = ds.map digByte) (hreach : ds.length ≤ 1000) (w : World) :
    Calls Tryd.prog 66 #[.string s, .bool false] w fun e W' => e = .returned (.int .i64 (upSum ds ds.length : Nat)) ∧ Below w.heap.size w W' := by
  have h := (callsIn_wide (n := 3)).1 (sum_in Fence.wide 3 trivial trivial trivial rfl (by omega) ds s hs hreach false w)
  have e := back_sum ds ds.length (Nat.le_refl _)
  rw [Nat.sub_self] at e
  have e2 : sumTo false (upto (bk ds) ds.length) = upSum ds ds.length := e
  rw [e2] at h
  exact h
set_option maxHeartbeats 4000000 in
theorem digFine (s : ByteArray) (hs : s.size ≤ 400) (w : World) : Calls Tryd.prog 45 #[.string s] w fun e w' => e = .returned (.bool (fineB s)) ∧ Below w.heap.size w w' := by
  cases hb : isB s with
  | false =>
    have hf : fineB s = false := by unfold fineB; rw [hb]; rfl
    rw [hf]
    have HB := Sealed0.mk hb
    clear hb hf
    go_enter Tryd.func45, Tryd.ntmps45
    go_wp2_with fail
    refine (digIs s hs _).mono ?_
    rintro e w' ⟨rfl, rfl⟩
    rw [HB.out]
    go_wp2_with fail
    go_ret
    exact ⟨rfl, Below.refl _ _⟩
  | true =>
    obtain ⟨q, hq⟩ : ∃ q, upSum (digs s) (digs s).length = q := ⟨_, rfl⟩
    have hf : fineB s = decide (q % 10 = 0) := by unfold fineB; rw [hb, Bool.true_and, ← hq, digs_length]
    have hq9 : q ≤ 3600 := by have := upSum_le (digs s) (digs s).length; rw [digs_length] at this hq; omega
    rw [hf]
    have HB := Sealed0.mk hb
    have HQ := Sealed0.mk hq
    clear hb hf hq
    go_enter Tryd.func45, Tryd.ntmps45
    go_wp2_with fail
    refine (digIs s hs _).mono ?_
    rintro e w' ⟨rfl, rfl⟩
    rw [HB.out]
    go_wp2_with fail
    refine (digSum (digs s) s (digs_back s HB.out) (by rw [digs_length]; omega) _).mono ?_
    rintro e w' ⟨rfl, hb'⟩
    rw [HQ.out]
    go_wp2_with fail
    go_ret
    refine ⟨?_, hb'⟩
    show Ending.returned (.bool ((q : Int) % 10 == 0)) = _
    congr 2
    rw [Bool.eq_iff_iff]
    simp
    omega
instance : digit_Fine.Has where
  out := by
    intro k a0 r w h
    obtain ⟨hs, rfl⟩ := dfine_is h
    exact digFine a0 hs w
end Go.Proofs.YtkgkemihhfipaaaDoor.HK

/- Packed by pack.py (this session's own program): texts of the kit's printer and of my own, what is not used struck. -/
import Derived.Test.YtkgkemihhfipaaaDoorRStubA
import Derived.Test.YtkgkemihhfipaaaDoorRHKx6
import Derived.Test.YtkgkemihhfipaaaDoorRHKx3
import Derived.OrdersHeld
set_option linter.unusedVariables false
set_option linter.unusedSimpArgs false
set_option linter.unusedSectionVars false
namespace Go.Proofs.YtkgkemihhfipaaaDoor.HK
open Go.RowKit Go.Proofs.YtkgkemihhfipaaaDoorW.PrintWords Go.Proofs.YtkgkemihhfipaaaDoorW.PrintLast Go.Proofs.YtkgkemihhfipaaaDoorW.PrintMore
theorem typeOf_f (j : Nat) (hj : j < 8) : deal_typeOf.f (j : Int) = some (typeAt j) := by
  match j, hj with
  | 0, _ => rfl
  | 1, _ => rfl
  | 2, _ => rfl
  | 3, _ => rfl
  | 4, _ => rfl
  | 5, _ => rfl
  | 6, _ => rfl
  | 7, _ => rfl
theorem typeOf_out (a : Int) (h : a < 0 ∨ 8 ≤ a) : deal_typeOf.f a = some ⟨#[]⟩ := by
  unfold deal_typeOf.f
  rw [if_neg (by omega), if_neg (by omega), if_neg (by omega), if_neg (by omega), if_neg (by omega), if_neg (by omega), if_neg (by omega)]
set_option maxHeartbeats 4000000 in
theorem typeOf_in (j : Nat) (hj : j < 8) (w : World) (hty : TypesAt w) : Calls Tryd.prog 59 #[.int .i64 (j : Int)] w fun e w' => e = .returned (.string (typeAt j)) ∧ Drawn0 w w' := by
  have hc := hty j hj
  have g1 : decide ((j : Int) < 0) = false := by simp
  have g2 : decide (8 ≤ (j : Int)) = false := by simp; omega
  obtain ⟨t, ht⟩ : ∃ t, typeAt j = t := ⟨_, rfl⟩
  rw [ht] at hc ⊢
  clear ht hty
  have hj8 : (j : Int) < 8 := by omega
  go_enter Tryd.func59, Tryd.ntmps59
  go_wp2
  go_ret
  exact ⟨rfl, Drawn0.refl _⟩
set_option maxHeartbeats 4000000 in
theorem typeOf_not (a : Int) (h : a < 0 ∨ 8 ≤ a) (w : World) : Calls Tryd.prog 59 #[.int .i64 a] w fun e w' => e = .returned (.string ⟨#[]⟩) ∧ Drawn0 w w' := by
  by_cases h0 : a < 0
  · have g1 : decide (a < 0) = true := by simp [h0]
    clear h
    go_enter Tryd.func59, Tryd.ntmps59
    go_wp2
    go_ret
    exact ⟨rfl, Drawn0.refl _⟩
  · have g1 : decide (a < 0) = false := by simp; omega
    have g2 : decide (8 ≤ a) = true := by simp; omega
    clear h h0
    go_enter Tryd.func59, Tryd.ntmps59
    go_wp2
    go_ret
    exact ⟨rfl, Drawn0.refl _⟩
instance : deal_typeOf.Has where
  out := by
    intro a r w h hty
    by_cases ho : a < 0 ∨ 8 ≤ a
    · rw [typeOf_out a ho] at h
      injection h with h
      subst h
      exact typeOf_not a ho w
    · obtain ⟨j, rfl⟩ : ∃ j : Nat, a = (j : Int) := ⟨a.toNat, by omega⟩
      rw [typeOf_f j (by omega)] at h
      injection h with h
      subst h
      exact typeOf_in j (by omega) w hty
attribute [local go_sem high] eqA25
set_option maxHeartbeats 4000000 in
theorem order07 (a : Int) (b : ByteArray) (c : Int) (d : ByteArray) (r : Int) (w : World) (h : paydeskref07_Order.f a b c d = some r) : Calls Tryd.prog 52 #[.agg #[.int .u32 a, .string b], .agg #[.int .u32 c, .string d]] w fun e w' => e = .returned (.int .i64 r) ∧ Below w.heap.size w w' := by
  unfold paydeskref07_Order.f at h
  have hbelow : Below w.heap.size w ((w.alloc (.cells #[.int .u32 a, .string b] 25)).alloc (.cells #[.int .u32 c, .string d] 25)) := ((Below.refl _ _).alloc (Nat.le_refl _) _).alloc (by simp) _
  have HB := Sealed0.mk hbelow
  clear hbelow
  by_cases hac : a = c
  · subst hac
    cases hbd : (b.toList == d.toList) with
    | true =>
      rw [if_pos (by rw [hbd]; simp)] at h
      injection h with h
      subst h
      go_enter Tryd.func52, Tryd.ntmps52
      go_wp2
      go_ret
      exact ⟨rfl, HB.out⟩
    | false =>
      rw [if_neg (by rw [hbd]; simp), if_neg (by omega), if_pos rfl] at h
      cases hl : Op.bytesLess b.toList d.toList with
      | true =>
        rw [if_pos hl] at h
        injection h with h
        subst h
        go_enter Tryd.func52, Tryd.ntmps52
        go_wp2
        go_ret
        exact ⟨rfl, HB.out⟩
      | false =>
        rw [if_neg (by rw [hl]; simp)] at h
        injection h with h
        subst h
        go_enter Tryd.func52, Tryd.ntmps52
        go_wp2
        go_ret
        exact ⟨rfl, HB.out⟩
  · have hne : (a == c) = false := by simp [hac]
    rw [if_neg (by rw [hne]; simp)] at h
    by_cases hlt : a < c
    · rw [if_pos hlt] at h
      injection h with h
      subst h
      have g1 : decide (a < c) = true := by simp [hlt]
      clear hac
      go_enter Tryd.func52, Tryd.ntmps52
      go_wp2
      go_ret
      exact ⟨rfl, HB.out⟩
    · rw [if_neg hlt, if_neg hac] at h
      injection h with h
      subst h
      have g1 : decide (a < c) = false := by simpa using hlt
      clear hac
      go_enter Tryd.func52, Tryd.ntmps52
      go_wp2
      go_ret
      exact ⟨rfl, HB.out⟩
instance : paydeskref07_Order.Has where
  out := by
    intro a b c d r w h
    exact order07 a b c d r w h
end Go.Proofs.YtkgkemihhfipaaaDoor.HK

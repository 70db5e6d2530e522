/- The wire's small functions. -/
import Derived.Test.YtkpabmhijpnchaaLib1
set_option linter.unusedVariables false
set_option linter.unusedSimpArgs false
namespace Go.Proofs.Ytkpabmhijpnchaa
open Go.RowKit
theorem wire_Right (w : World) (A : Option Addr) (n c : Nat) (h2 : n ≤ 140737488355328) (b : Bool) (h : decide (n ≤ 200) = b) :
    Calls Try.prog 16 #[.agg #[.slice A n c]] w fun e w' => e = .returned (.bool b) ∧ Below w.heap.size w w' := by
  have H := Lib.hid h
  clear h
  go_enter Try.func16, Try.ntmps16
  go_wp2
  go_ret
  exact ⟨by rw [← H.out]; simp; omega, (Below.refl _ _).alloc (Nat.le_refl _) _⟩
def placeOf (n : Nat) (at_ : Int) : Int × Int := if 200 < n ∨ at_ < 0 then (0, 1) else if n = 0 then (0, 5) else (at_ % n, 0)
theorem wire_place (w : World) (A : Option Addr) (n c : Nat) (at_ : Int) (h2 : n ≤ 140737488355328) (r : Int × Int) (h : placeOf n at_ = r) :
    Calls Try.prog 39 #[.agg #[.slice A n c], .int .i64 at_] w fun e w' => e = .returned (.tuple #[.int .i64 r.1, .int .i64 r.2]) ∧ Below w.heap.size w w' := by
  unfold placeOf at h
  by_cases h1 : 200 < n
  · rw [if_pos (.inl h1)] at h
    subst h
    go_enter Try.func39, Try.ntmps39
    go_wp2_with (go_at_call 16; refine (wire_Right _ _ _ _ h2 false (by simp; omega)).mono ?_; rintro e w1 ⟨rfl, hb⟩)
    go_ret2
    exact ⟨rfl, ((Below.refl _ _).alloc (Nat.le_refl _) _).trans (hb.mono (by simp))⟩
  · by_cases h3 : at_ < 0
    · rw [if_pos (.inr h3)] at h
      subst h
      go_enter Try.func39, Try.ntmps39
      go_wp2_with (go_at_call 16; refine (wire_Right _ _ _ _ h2 true (by simp; omega)).mono ?_; rintro e w1 ⟨rfl, hb⟩)
      go_ret2
      exact ⟨rfl, ((Below.refl _ _).alloc (Nat.le_refl _) _).trans (hb.mono (by simp))⟩
    · rw [if_neg (by omega)] at h
      by_cases h4 : n = 0
      · subst h4
        simp at h
        subst h
        go_enter Try.func39, Try.ntmps39
        go_wp2_with (go_at_call 16; refine (wire_Right _ _ _ _ h2 true (by simp)).mono ?_; rintro e w1 ⟨rfl, hb⟩; obtain ⟨hc, hf⟩ := bcell hb)
        go_ret2
        exact ⟨rfl, ((Below.refl _ _).alloc (Nat.le_refl _) _).trans (hb.mono (by simp))⟩
      · rw [if_neg h4] at h
        subst h
        have h5 : ((n : Int) == 0) = false := by simp; omega
        go_enter Try.func39, Try.ntmps39
        go_wp2_with (go_at_call 16; refine (wire_Right _ _ _ _ h2 true (by simp; omega)).mono ?_; rintro e w1 ⟨rfl, hb⟩; obtain ⟨hc, hf⟩ := bcell hb)
        go_ret2
        exact ⟨rfl, ((Below.refl _ _).alloc (Nat.le_refl _) _).trans (hb.mono (by simp))⟩
end Go.Proofs.Ytkpabmhijpnchaa

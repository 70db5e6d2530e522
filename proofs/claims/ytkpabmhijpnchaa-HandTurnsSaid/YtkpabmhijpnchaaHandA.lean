/- The hands: whole, Right, Of. -/
import Derived.Test.YtkpabmhijpnchaaProg
import Derived.Test.YtkpabmhijpnchaaBase3
import Derived.Test.YtkpabmhijpnchaaFlo2
import Derived.WalkLawsBesides
import Derived.Laws.Externs
set_option linter.unusedVariables false
set_option linter.unusedSimpArgs false
namespace Go.Proofs.Ytkpabmhijpnchaa
open Go.RowKit
theorem fmt_f64 : FloatKind.f64.format = Ieee.double := rfl
theorem arch_trunc (x : Nat) (h : (FloatKind.f64.decode x).isNaN = false) (w : World) : (callFunc 49 #[.float .f64 x]).run Try.prog w = .ok (.value (.float .f64 (trunc x))) w := by
  rw [run_callFunc_extern Try.func49 (by kernel_rfl) (by kernel_rfl) (by kernel_rfl) (e := Extern.MathFloor.toIntegral "math.archTrunc" .zero) (by kernel_rfl) _ w]
  have he : Extern.MathFloor.toIntegral "math.archTrunc" .zero #[.float .f64 x] = pure (.float .f64 (trunc x)) := by
    change (match FloatKind.f64.decode x with | .nan s t => _ | d => pure (Value.float .f64 (FloatKind.f64.encode (d.integral .zero))) : Sem Value) = _
    unfold trunc
    cases hd : FloatKind.f64.decode x with
    | nan s t => rw [hd] at h; cases h
    | _ => rfl
  rw [he]
  rfl
theorem math_Trunc (w : World) (x : Nat) (h : (FloatKind.f64.decode x).isNaN = false) : Calls Try.prog 47 #[.float .f64 x] w fun e w' => e = .returned (.float .f64 (trunc x)) ∧ Below w.heap.size w w' := by
  have hc := arch_trunc x h
  go_enter Try.func47, Try.ntmps47
  go_wp2
  go_ret
  exact ⟨rfl, Below.refl _ _⟩
theorem not_nan {x y : Nat} (h : (FloatKind.f64.format.order x y == some .gt || FloatKind.f64.format.order x y == some .eq) = true) : (FloatKind.f64.decode x).isNaN = false := by
  unfold Ieee.Format.order at h
  cases hd : FloatKind.f64.decode x with
  | nan s t =>
    unfold FloatKind.decode at hd
    rw [hd] at h
    cases hy : FloatKind.f64.format.read y <;> rw [hy] at h <;> cases h
  | _ => rfl
theorem hand_whole (w : World) (x : Nat) (hx : x < 2 ^ 64) (b : Bool) (h : (num x).isSome = b) : Calls Try.prog 42 #[.float .f64 x] w fun e w' => e = .returned (.bool b) ∧ Below w.heap.size w w' := by
  rw [← wholeGo_num hx] at h
  unfold wholeGo at h
  rw [← fmt_f64] at h
  unfold c64 at h
  cases h1 : (FloatKind.f64.format.order x 0 == some .gt || FloatKind.f64.format.order x 0 == some .eq)
  · rw [h1] at h
    have hb : b = false := by rw [← h]; rfl
    subst hb
    clear h
    go_enter Try.func42, Try.ntmps42
    go_wp2
    go_ret
    exact ⟨rfl, Below.refl _ _⟩
  · rw [h1] at h
    have hn := not_nan h1
    cases h2 : (FloatKind.f64.format.order x 4634204016564240384 == some .lt)
    · rw [h2] at h
      have hb : b = false := by rw [← h]; rfl
      subst hb
      clear h
      go_enter Try.func42, Try.ntmps42
      go_wp2
      go_ret
      exact ⟨rfl, Below.refl _ _⟩
    · rw [h2] at h
      have h3 : (FloatKind.f64.format.order x (trunc x) == some .eq) = b := by rw [← h]; rfl
      clear h
      go_enter Try.func42, Try.ntmps42
      go_wp2_with (go_at_call 47; refine (math_Trunc _ x hn).mono ?_; rintro e w1 ⟨rfl, hb⟩)
      go_ret
      exact ⟨rfl, hb⟩
theorem hand_Right (w : World) (x y : Nat) (hx : x < 2 ^ 64) (hy : y < 2 ^ 64) (b : Bool) (h : (hd x y).isSome = b) : Calls Try.prog 22 #[.complex .f64 x y] w fun e w' => e = .returned (.bool b) ∧ Below w.heap.size w w' := by
  rw [hd_isSome] at h
  cases h1 : (num x).isSome
  · rw [h1] at h
    have hb : b = false := by rw [← h]; rfl
    subst hb
    clear h
    go_enter Try.func22, Try.ntmps22
    go_wp2_with (go_at_call 42; refine (hand_whole _ x hx _ h1).mono ?_; rintro e w1 ⟨rfl, hb⟩; obtain ⟨hc, hf⟩ := bcell hb)
    go_ret
    exact ⟨rfl, hb⟩
  · rw [h1] at h
    have h2 : (num y).isSome = b := by rw [← h]; rfl
    clear h
    go_enter Try.func22, Try.ntmps22
    go_wp2_with (go_at_call 42; refine (hand_whole _ _ (by assumption) _ (by assumption)).mono ?_; rintro e w1 ⟨rfl, hb⟩; obtain ⟨hc, hf⟩ := bcell hb)
    go_ret
    rename_i wa hba hca hfa
    exact ⟨rfl, below_next hba hb⟩
theorem f_of (n : Int) : floatOfInt .f64 n = fl n := rfl
theorem hand_Of (w : World) (t : Nat) (ht : t < 2 ^ 64) : Calls Try.prog 24 #[.int .u64 t] w fun e w' => (∃ r1 r2, e = .returned (.complex .f64 r1 r2) ∧ hd r1 r2 = some (t % 4096)) ∧ Below w.heap.size w w' := by
  have e4 : floatOfInt .f64 ((t : Int) / 64 % 64) = fl (t % 4096 / 64 : Nat) := by
    have : (t : Int) / 64 % 64 = ((t % 4096 / 64 : Nat) : Int) := by omega
    rw [this]; rfl
  have e5 : floatOfInt .f64 ((t : Int) % 64) = fl (t % 4096 % 64 : Nat) := by
    have : (t : Int) % 64 = ((t % 4096 % 64 : Nat) : Int) := by omega
    rw [this]; rfl
  have E4 := Lib.hid e4
  have E5 := Lib.hid e5
  clear e4 e5
  go_enter Try.func24, Try.ntmps24
  go_wp2
  go_ret
  exact ⟨⟨_, _, congrArg Ending.returned (congr (congrArg (Value.complex .f64) E4.out) E5.out), hd_fl (Nat.mod_lt t (by decide))⟩, Below.refl _ _⟩
end Go.Proofs.Ytkpabmhijpnchaa

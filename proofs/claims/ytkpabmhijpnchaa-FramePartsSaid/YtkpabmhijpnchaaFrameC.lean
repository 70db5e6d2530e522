/- The frame's library calls: slices.Grow at nil. -/
import Derived.Test.YtkpabmhijpnchaaFrameB
import Derived.Lib.AppendZeros
set_option linter.unusedVariables false
set_option linter.unusedSimpArgs false
namespace Go.Proofs.Ytkpabmhijpnchaa
open Go.RowKit
theorem size_zeros (z : Value) (h : z.cells.size = 1) (m : Nat) : (Builtin.zeroCells z.cells m).size = m := by rw [size_zeroCells, h, Nat.mul_one]
theorem grow_nil (w : World) (n : Nat) (h0 : 0 < n) (h1 : n ≤ 140737488355328) : Calls Try.prog 48 #[.slice none 0 0, .int .i64 n] w fun e w' => ∃ cap, e = .returned (.slice (some ⟨w.heap.size, 0, none⟩) 0 cap) ∧ n ≤ cap ∧ Row w' w.heap.size 5 1 0 cap [] ∧ Below w.heap.size w w' := by
  obtain ⟨i, hi, hz, hsize, hby⟩ := info_parts u8_info
  have g0 : ((n : Int) < 0) = False := eq_false (by omega)
  have g1 : (0 < (n : Int)) = True := eq_true (by omega)
  have hr := fun (w : World) (ty : TypeId) => Lib.run_append_nil_zeros (P := Try.prog) w 25 3 ty 5 i (.int .u8 0) .i64 .i64 Try.underlying25 Try.underlying3 hi hz n h0 (by omega) (by omega) (by rw [hby]; omega)
  have hge := grownCap_ge w n 0 5
  have hle := grownCap_le_maxLen w n 0 5 (by simp only [maxLen]; omega)
  have HR := Sealed.mk hr
  clear hr
  go_enter Try.func48, Try.ntmps48
  go_wp2_with (at_builtin; refine Lib.wpList_append_run _ rfl (.tmp 20) (.tmp 21) _ _ rfl _ _ rfl rfl _ _ (HR.out _ _) ?_)
  go_ret
  refine ⟨grownCap w n 0 5, rfl, hge, ⟨rfl, Nat.zero_le _, hle, _, heap_alloc_new _ _, ?_, by simp⟩, ((Below.refl _ _).drew).alloc (Nat.le_refl _) _⟩
  have z1 := size_zeros (.int .u8 0) rfl
  rw [Array.size_append, Nat.mul_one]
  have z2 : (Builtin.zeroCells #[Value.int IntKind.u8 0] n).size = n := z1 n
  have z3 : (Builtin.zeroCells #[Value.int IntKind.u8 0] (grownCap w n 0 5 - n)).size = grownCap w n 0 5 - n := z1 _
  omega
theorem grow_zero (w : World) : Calls Try.prog 48 #[.slice none 0 0, .int .i64 0] w fun e w' => e = .returned (.slice none 0 0) ∧ w' = w := by
  go_enter Try.func48, Try.ntmps48
  go_wp2
  go_ret
  exact ⟨rfl, rfl⟩
end Go.Proofs.Ytkpabmhijpnchaa

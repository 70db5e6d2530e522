/- Go's library as the wires use it: slices.Clone. -/
import Derived.Test.YtkpabmhijpnchaaProg
import Derived.Test.YtkpabmhijpnchaaBase3
set_option linter.unusedVariables false
set_option linter.unusedSimpArgs false
namespace Go.Proofs.Ytkpabmhijpnchaa
open Go.RowKit
theorem u8_info : (Try.prog.info? 5).map (fun i => (i.zero, i.size, i.bytes)) = some (some (.int .u8 0), 1, 1) := by kernel_rfl
theorem clone_u8 (w : World) (S : Nat → Prop) (A : Option Addr) (n c : Nat) (xs : List Value) (h : Rd w S 1 A n xs) (h1 : ∀ u ∈ xs, u.oneCell' = true) (hn : n ≤ 140737488355328) :
    Calls Try.prog 38 #[.slice A n c] w (Made w 5 1 n xs) := by
  rcases A with _ | ad
  · have hn0 : n = 0 := by
      rcases Nat.eq_zero_or_pos n with h0 | h0
      · exact h0
      · obtain ⟨ad, he, _⟩ := h.2 h0
        cases he
    subst hn0
    have hx : xs = [] := List.eq_nil_of_length_eq_zero (by simpa using h.1)
    subst hx
    have heq := Lib.run_eql_slice_nil (P := Try.prog) w 25 5 none 0 c 0 0 Try.underlying25
    go_enter Try.func38, Try.ntmps38
    go_wp2
    go_ret
    exact ⟨_, _, rfl, Nat.zero_le _, World.ownsRow_nil _ _ _ _, Below.refl _ _⟩
  · have heq := Lib.run_eql_slice_nil (P := Try.prog) w 25 5 (some ad) n c 0 0 Try.underlying25
    go_enter Try.func38, Try.ntmps38
    go_wp2_with (at_builtin; refine wpList_append_any _ rfl (.tmp 5) (.tmp 6) _ rfl w.heap.size 5 _ 1 1 Try.underlying25 u8_info rfl (by omega) _ 0 [] rfl (own_new w _ 1) S (some ad) n c xs rfl (h.below ((Below.refl _ _).alloc (Nat.le_refl _) _)) h1 (by simp only [maxLen]; omega) (by omega) (by simp) ?_; intro A1 c1 w1 hc1 hown hg hat)
    go_ret
    simp only [Nat.zero_add, List.nil_append] at hown hc1 ⊢
    refine ⟨A1, c1, rfl, hc1, hown, ((Below.refl _ _).alloc (Nat.le_refl _) _).grown hg (by simp) ?_⟩
    intro k hk
    injection hk with hk
    exact Nat.le_of_eq hk
theorem rows_info : (Try.prog.info? 25).map (fun i => (i.zero, i.size, i.bytes)) = some (some (.slice none 0 0), 1, 24) := by kernel_rfl
theorem clone_rows (w : World) (S : Nat → Prop) (A : Option Addr) (n c : Nat) (xs : List Value) (h : Rd w S 1 A n xs) (h1 : ∀ u ∈ xs, u.oneCell' = true) (hn : n ≤ 4000000000000) :
    Calls Try.prog 37 #[.slice A n c] w (Made w 25 1 n xs) := by
  rcases A with _ | ad
  · have hn0 : n = 0 := by
      rcases Nat.eq_zero_or_pos n with h0 | h0
      · exact h0
      · obtain ⟨ad, he, _⟩ := h.2 h0
        cases he
    subst hn0
    have hx : xs = [] := List.eq_nil_of_length_eq_zero (by simpa using h.1)
    subst hx
    have heq := Lib.run_eql_slice_nil (P := Try.prog) w 22 25 none 0 c 0 0 Try.underlying22
    go_enter Try.func37, Try.ntmps37
    go_wp2
    go_ret
    exact ⟨_, _, rfl, Nat.zero_le _, World.ownsRow_nil _ _ _ _, Below.refl _ _⟩
  · have heq := Lib.run_eql_slice_nil (P := Try.prog) w 22 25 (some ad) n c 0 0 Try.underlying22
    go_enter Try.func37, Try.ntmps37
    go_wp2_with (at_builtin; refine wpList_append_any _ rfl (.tmp 5) (.tmp 6) _ rfl w.heap.size 25 _ 1 24 Try.underlying22 rows_info rfl (by omega) _ 0 [] rfl (own_new w _ 1) S (some ad) n c xs rfl (h.below ((Below.refl _ _).alloc (Nat.le_refl _) _)) h1 (by simp only [maxLen]; omega) (by omega) (by simp) ?_; intro A1 c1 w1 hc1 hown hg hat)
    go_ret
    simp only [Nat.zero_add, List.nil_append] at hown hc1 ⊢
    refine ⟨A1, c1, rfl, hc1, hown, ((Below.refl _ _).alloc (Nat.le_refl _) _).grown hg (by simp) ?_⟩
    intro k hk
    injection hk with hk
    exact Nat.le_of_eq hk
end Go.Proofs.Ytkpabmhijpnchaa

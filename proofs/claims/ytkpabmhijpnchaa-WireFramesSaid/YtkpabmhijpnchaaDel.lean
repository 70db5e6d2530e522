/- slices.Delete of one element of an own row. -/
import Derived.Test.YtkpabmhijpnchaaLib1
set_option linter.unusedVariables false
set_option linter.unusedSimpArgs false
namespace Go.Proofs.Ytkpabmhijpnchaa
open Go.RowKit
theorem rows_zero : ∀ w : World, (zeroValue 25).run Try.prog w = .ok (.slice none 0 0) w := fun w => by kernel_rfl
theorem del_rows (w : World) (g n cap : Nat) (xs : List Value) (h : Row w g 25 1 n cap xs) (h1 : ∀ u ∈ xs, u.oneCell' = true) (i : Nat) (hi : i < n) :
    Calls Try.prog 40 #[.slice (some ⟨g, 0, none⟩) n cap, .int .i64 i, .int .i64 (i + 1)] w fun e w' => e = .returned (.slice (some ⟨g, 0, none⟩) (n - 1) cap) ∧ Row w' g 25 1 (n - 1) cap (xs.take i ++ xs.drop (i + 1)) ∧ w.grownBy w' (some g) := by
  have hcm : cap ≤ 9223372036854775807 := h.2.2.1
  have hnc : n ≤ cap := h.2.1
  have hlen := h.1
  have HR := Lib.hid h
  have H1 := Lib.hid (h.head (k := i) (by omega))
  obtain ⟨A, hA, hsrc⟩ : ∃ A : Addr, (if cap = i + 1 then some (⟨g, 0, none⟩ : Addr) else some ⟨g, i + 1, none⟩) = some A ∧ Hid (∀ t u, (xs.drop (i + 1))[t]? = some u → w.drew.cell? (A.add t) = some u) := by
    by_cases hc : cap = i + 1
    · refine ⟨⟨g, 0, none⟩, by simp [hc], fun t u hu => ?_⟩
      rw [List.drop_eq_nil_of_le (by omega)] at hu
      simp at hu
    · refine ⟨⟨g, i + 1, none⟩, by simp [hc], fun t u hu => ?_⟩
      rw [List.getElem?_drop] at hu
      rw [Addr.add_lit]
      exact (h.at_ hu).1
  have s1 : Hid ((xs.drop (i + 1)).length = (n - (i + 1)) * 1) := by simp [Hid]; omega
  have s2 : Hid (∀ u ∈ xs.drop (i + 1), u.oneCell' = true) := fun u hu => h1 u (List.mem_of_mem_drop hu)
  have hic : i ≤ cap := by omega
  have hneq : ((i : Int) == (i : Int) + 1) = false := by simp; omega
  have hp0 : (0 : Int) ≤ (i : Int) + 1 := by omega
  have hp1 : (i : Int) + 1 ≤ (n : Int) := by omega
  clear h hlen h1
  go_enter Try.func40, Try.ntmps40
  go_wp2_with fail
  go_region_law (refine step_append_in w.drew rfl (.tmp 22) (.tmp 25) 22 rfl 25 _ 1 24 Try.underlying22 rows_info g i cap _ H1.out (by simp [Act.eval, Act.put]) A (n - (i + 1)) (cap - (i + 1)) (xs.drop (i + 1)) (by simp [Act.eval, Act.put]) s1.out hsrc.out s2.out (by omega) ?_; intro w1 hrow hgr)
  obtain ⟨w2, hcl, hrow2, hgr2⟩ := run_clear_behind (P := Try.prog) w1 22 25 _ 1 Try.underlying22 rows_zero rfl (fun u hu => by simp [Value.cells] at hu; subst hu; rfl) g (i + (n - (i + 1))) cap (n - (i + (n - (i + 1)))) (cap - (i + (n - (i + 1)))) (i + (n - (i + 1))) _ hrow (by omega) (by omega) (by omega) (by omega)
  go_wp2
  go_ret
  have e1 : i + (n - (i + 1)) = n - 1 := by omega
  rw [e1] at hrow2 ⊢
  exact ⟨rfl, by simpa using hrow2, World.grownBy.trans ⟨hgr.os, hgr.tape, hgr.output, hgr.size, hgr.block⟩ hgr2⟩
end Go.Proofs.Ytkpabmhijpnchaa

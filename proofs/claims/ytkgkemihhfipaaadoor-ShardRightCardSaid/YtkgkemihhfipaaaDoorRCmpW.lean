/- Packed by pack.py (this session's own program): texts of the kit's printer and of my own, what is not used struck. -/
import Derived.Test.YtkgkemihhfipaaaDoorRStubB
import Derived.Test.YtkgkemihhfipaaaDoorREvG
import Derived.Test.YtkgkemihhfipaaaDoorRBase2
import Derived.Deep.RegionHeld3
set_option linter.unusedVariables false
set_option linter.unusedSimpArgs false
set_option linter.unusedSectionVars false
namespace Go.Proofs.YtkgkemihhfipaaaDoor.HK
open Go.RowKit Go.Proofs.YtkgkemihhfipaaaDoorW.PrintWords Go.Proofs.YtkgkemihhfipaaaDoorW.PrintLast Go.Proofs.YtkgkemihhfipaaaDoorW.PrintMore
theorem nan_u32 (a : Int) (w : World) : Calls Tryd.prog 83 #[.int .u32 a] w fun e w' => e = .returned (.bool false) ∧ w' = w := by
  go_enter Tryd.func83, Tryd.ntmps83
  go_wp2
  go_ret
  exact ⟨by simp, rfl⟩
theorem nan_str (a : ByteArray) (w : World) : Calls Tryd.prog 84 #[.string a] w fun e w' => e = .returned (.bool false) ∧ w' = w := by
  go_enter Tryd.func84, Tryd.ntmps84
  go_wp2
  go_ret
  exact ⟨by simp, rfl⟩
def cmpI (a b : Int) : Int := if a < b then -1 else if b < a then 1 else 0
theorem cmp_u32 (a b : Int) (w : World) : Calls Tryd.prog 74 #[.int .u32 a, .int .u32 b] w fun e w' => e = .returned (.int .i64 (cmpI a b)) ∧ w' = w := by
  obtain ⟨r, hr⟩ : ∃ r, cmpI a b = r := ⟨_, rfl⟩
  rw [hr]
  unfold cmpI at hr
  by_cases h1 : a < b
  · rw [if_pos h1] at hr
    have g1 : decide (a < b) = true := by simp [h1]
    subst hr
    go_enter Tryd.func74, Tryd.ntmps74
    go_wp2_with fail
    refine (nan_u32 a _).mono ?_
    rintro e w1 ⟨rfl, rfl⟩
    go_wp2_with fail
    refine (nan_u32 b _).mono ?_
    rintro e w2 ⟨rfl, rfl⟩
    go_wp2
    go_ret
    exact ⟨rfl, rfl⟩
  · rw [if_neg h1] at hr
    have g1 : decide (a < b) = false := by simpa using h1
    by_cases h2 : b < a
    · rw [if_pos h2] at hr
      have g2 : decide (b < a) = true := by simp [h2]
      subst hr
      clear h1 h2
      go_enter Tryd.func74, Tryd.ntmps74
      go_wp2_with fail
      refine (nan_u32 a _).mono ?_
      rintro e w1 ⟨rfl, rfl⟩
      go_wp2_with fail
      refine (nan_u32 b _).mono ?_
      rintro e w2 ⟨rfl, rfl⟩
      go_wp2
      go_ret
      exact ⟨rfl, rfl⟩
    · rw [if_neg h2] at hr
      have g2 : decide (b < a) = false := by simpa using h2
      subst hr
      clear h1 h2
      go_enter Tryd.func74, Tryd.ntmps74
      go_wp2_with fail
      refine (nan_u32 a _).mono ?_
      rintro e w1 ⟨rfl, rfl⟩
      go_wp2_with fail
      refine (nan_u32 b _).mono ?_
      rintro e w2 ⟨rfl, rfl⟩
      go_wp2
      go_ret
      exact ⟨rfl, rfl⟩
def cmpS (a b : ByteArray) : Int := if Op.bytesLess a.toList b.toList = true then -1 else if a.toList = b.toList then 0 else 1
theorem cmp_str (a b : ByteArray) (w : World) : Calls Tryd.prog 75 #[.string a, .string b] w fun e w' => e = .returned (.int .i64 (cmpS a b)) ∧ w' = w := by
  obtain ⟨r, hr⟩ : ∃ r, cmpS a b = r := ⟨_, rfl⟩
  rw [hr]
  unfold cmpS at hr
  cases h1 : Op.bytesLess a.toList b.toList with
  | true =>
    rw [if_pos h1] at hr
    subst hr
    go_enter Tryd.func75, Tryd.ntmps75
    go_wp2_with fail
    refine (nan_str a _).mono ?_
    rintro e w1 ⟨rfl, rfl⟩
    go_wp2_with fail
    refine (nan_str b _).mono ?_
    rintro e w2 ⟨rfl, rfl⟩
    go_wp2
    go_ret
    exact ⟨rfl, rfl⟩
  | false =>
    rw [if_neg (by rw [h1]; simp)] at hr
    by_cases h2 : a.toList = b.toList
    · rw [if_pos h2] at hr
      have g2 : (a.toList == b.toList) = true := by simp [h2]
      subst hr
      clear h2
      go_enter Tryd.func75, Tryd.ntmps75
      go_wp2_with fail
      refine (nan_str a _).mono ?_
      rintro e w1 ⟨rfl, rfl⟩
      go_wp2_with fail
      refine (nan_str b _).mono ?_
      rintro e w2 ⟨rfl, rfl⟩
      go_wp2
      go_ret
      exact ⟨rfl, rfl⟩
    · rw [if_neg h2] at hr
      have g2 : (a.toList == b.toList) = false := by simp [h2]
      subst hr
      clear h2
      go_enter Tryd.func75, Tryd.ntmps75
      go_wp2_with fail
      refine (nan_str a _).mono ?_
      rintro e w1 ⟨rfl, rfl⟩
      go_wp2_with fail
      refine (nan_str b _).mono ?_
      rintro e w2 ⟨rfl, rfl⟩
      go_wp2
      go_ret
      exact ⟨rfl, rfl⟩
theorem cmp_or (g : Nat) (x y : Int) (w : World) (h0 : w.cell? ⟨g, 0, none⟩ = some (.int .i64 x)) (h1 : w.cell? ⟨g, 1, none⟩ = some (.int .i64 y)) (r : Int) (hr : (if x = 0 then y else x) = r) : Calls Tryd.prog 73 #[.slice (some ⟨g, 0, none⟩) 2 2] w fun e w' => e = .returned (.int .i64 r) ∧ w' = w := by
  have HR := Sealed.mk hr
  clear hr
  go_enter Tryd.func73, Tryd.ntmps73
  go_wp2
  go_loop [8] (fun i => ∃ k : Nat, k ≤ 2 ∧ i = .int .i64 (k : Nat) ∧ Sealed (1 ≤ k → x = 0) ∧ Sealed (2 ≤ k → y = 0)) (fun i => 2 - (intOf i).toNat)
  case atStart => exact ⟨0, by omega, rfl, ⟨fun h => absurd h (by omega)⟩, ⟨fun h => absurd h (by omega)⟩⟩
  case round =>
    obtain ⟨k, hk, rfl, X, Y⟩ := hrel
    match k, hk with
    | 0, _ =>
      by_cases hx : x = 0
      · subst hx
        go_wp2
        go_round
        case rel => exact ⟨1, by omega, by go_num, ⟨by simp⟩, ⟨by simp⟩⟩
        case measure => simp [intOf]
      · have g2 : (x != 0) = true := by simp [hx]
        have g3 : (x == 0) = false := by simp [hx]
        have HX := Sealed.mk hx
        clear hx
        go_wp2
        go_ret
        exact ⟨by rw [← HR.out, if_neg HX.out]; rfl, rfl⟩
    | 1, _ =>
      have hx := X.out (by omega)
      by_cases hy : y = 0
      · subst hy
        have HX := Sealed.mk hx
        clear hx
        go_wp2
        go_round
        case rel => exact ⟨2, by omega, by go_num, ⟨fun _ => HX.out⟩, ⟨by simp⟩⟩
        case measure => simp [intOf]
      · have g2 : (y != 0) = true := by simp [hy]
        have g3 : (y == 0) = false := by simp [hy]
        have HX := Sealed.mk hx
        clear hx hy
        go_wp2
        go_ret
        exact ⟨by rw [← HR.out, if_pos HX.out]; rfl, rfl⟩
    | 2, _ =>
      have hx := X.out (by omega)
      have hy := Y.out (by omega)
      go_wp2
      go_ret
      exact ⟨by rw [← HR.out, if_pos hx, hy]; rfl, rfl⟩
    | k + 3, h => omega
theorem two_alloc (w : World) (x y : Value) (t : TypeId) : (w.alloc (.cells #[x, y] t)).cell? ⟨w.heap.size, 0, none⟩ = some x ∧ (w.alloc (.cells #[x, y] t)).cell? ⟨w.heap.size, 1, none⟩ = some y := by simp
theorem ordK_cmp (a b : EK) : ordK a b = if cmpI a.f0 b.f0 = 0 then cmpS a.f1 b.f1 else cmpI a.f0 b.f0 := by
  unfold ordK cmpI cmpS
  by_cases h1 : a.f0 < b.f0
  · simp [h1]
  · by_cases h2 : b.f0 < a.f0
    · simp [h1, h2]
    · simp [h1, h2]
set_option maxHeartbeats 4000000 in
set_option maxRecDepth 100000 in
theorem key_order (a b : EK) (w : World) : Calls Tryd.prog 51 #[.agg #[.int .u32 a.f0, .string a.f1], .agg #[.int .u32 b.f0, .string b.f1]] w fun e w' => e = .returned (.int .i64 (ordK a b)) ∧ Below w.heap.size w w' := by
  obtain ⟨a0, a1⟩ := a
  obtain ⟨b0, b1⟩ := b
  rw [ordK_cmp]
  obtain ⟨x, hx⟩ : ∃ x, cmpI a0 b0 = x := ⟨_, rfl⟩
  obtain ⟨y, hy⟩ : ∃ y, cmpS a1 b1 = y := ⟨_, rfl⟩
  show Calls Tryd.prog 51 #[.agg #[.int .u32 a0, .string a1], .agg #[.int .u32 b0, .string b1]] w fun e w' => e = .returned (.int .i64 (if cmpI a0 b0 = 0 then cmpS a1 b1 else cmpI a0 b0)) ∧ Below w.heap.size w w'
  rw [hx, hy]
  obtain ⟨r, hr⟩ : ∃ r, (if x = 0 then y else x) = r := ⟨_, rfl⟩
  rw [hr]
  have HX := Sealed.mk hx
  have HY := Sealed.mk hy
  have HR := Sealed.mk hr
  clear hx hy hr
  have hb0 : Below w.heap.size w ((w.alloc (.cells #[.int .u32 a0, .string a1] 25)).alloc (.cells #[.int .u32 b0, .string b1] 25)) := below_next (below_alloc _ _) (below_alloc _ _)
  have c0 : ((w.alloc (.cells #[.int .u32 a0, .string a1] 25)).alloc (.cells #[.int .u32 b0, .string b1] 25)).cell? ⟨w.heap.size, 0, none⟩ = some (.int .u32 a0) := by simp
  have c1 : ((w.alloc (.cells #[.int .u32 a0, .string a1] 25)).alloc (.cells #[.int .u32 b0, .string b1] 25)).cell? ⟨w.heap.size, 1, none⟩ = some (.string a1) := by simp
  have c2 : ((w.alloc (.cells #[.int .u32 a0, .string a1] 25)).alloc (.cells #[.int .u32 b0, .string b1] 25)).cell? ⟨w.heap.size + 1, 0, none⟩ = some (.int .u32 b0) := by simp
  have c3 : ((w.alloc (.cells #[.int .u32 a0, .string a1] 25)).alloc (.cells #[.int .u32 b0, .string b1] 25)).cell? ⟨w.heap.size + 1, 1, none⟩ = some (.string b1) := by simp
  obtain ⟨W, hW⟩ : ∃ W, W = ((w.alloc (.cells #[.int .u32 a0, .string a1] 25)).alloc (.cells #[.int .u32 b0, .string b1] 25)) := ⟨_, rfl⟩
  rw [← hW] at hb0 c0 c1 c2 c3
  have HW := Sealed.mk hW
  clear hW
  go_enter Tryd.func51, Tryd.ntmps51
  go_wp2_with fail
  rw [← HW.out]
  clear HW
  go_region_held3 (fun w' => w'.cell? ⟨w.heap.size, 0, none⟩ = some (.int .u32 a0) ∧ w'.cell? ⟨w.heap.size, 1, none⟩ = some (.string a1) ∧ w'.cell? ⟨w.heap.size + 1, 0, none⟩ = some (.int .u32 b0) ∧ w'.cell? ⟨w.heap.size + 1, 1, none⟩ = some (.string b1) ∧ Below w.heap.size w w')
    (first | exact ⟨c0, c1, c2, c3, hb0.drew⟩ | (go_split_ands; refine ⟨?_, ?_, ?_, ?_, ?_⟩ <;> assumption) | (go_split_ands; refine ⟨cell_below (below_alloc _ _) (by assumption), cell_below (below_alloc _ _) (by assumption), cell_below (below_alloc _ _) (by assumption), cell_below (below_alloc _ _) (by assumption), below_next (by assumption) (below_alloc _ _)⟩))
    (first
      | (go_at_call 74; refine (cmp_u32 a0 b0 _).mono ?_; rw [HX.out]; rintro e wz ⟨rfl, rfl⟩)
      | (go_at_call 75; refine (cmp_str a1 b1 _).mono ?_; rw [HY.out]; rintro e wz ⟨rfl, rfl⟩)
      | (go_at_call 73; refine (cmp_or _ x y _ ?h0 ?h1 r HR.out).mono ?_; (case h0 => exact (two_alloc _ _ _ _).1); (case h1 => exact (two_alloc _ _ _ _).2); rintro e wz ⟨rfl, rfl⟩))
  all_goals (go_wp2; go_ret; go_split_ands; exact ⟨rfl, by assumption⟩)
end Go.Proofs.YtkgkemihhfipaaaDoor.HK

/- Packed by pack.py (this session's own program): texts of the kit's printer and of my own, what is not used struck. -/
import Derived.Test.YtkgkemihhfipaaaDoorRHKx0
import Derived.Test.YtkgkemihhfipaaaDoorRHKx4
import Derived.Test.YtkgkemihhfipaaaDoorRHKx5
import Derived.Test.YtkgkemihhfipaaaDoorRHKx9
namespace Go.Proofs.YtkgkemihhfipaaaDoor.HK
open Go.RowKit Go.Proofs.YtkgkemihhfipaaaDoorW.PrintWords Go.Proofs.YtkgkemihhfipaaaDoorW.PrintLast Go.Proofs.YtkgkemihhfipaaaDoorW.PrintMore
attribute [local go_sem] max2_int min2_int max_two min_two max_three min_three max_four min_four
set_option linter.unusedVariables false
set_option linter.unusedSimpArgs false
set_option linter.unusedSectionVars false
variable [digit_Fine.Has]
variable [field_Right.Has]
variable [deal_typeOf.Has]
variable [paydeskref07_Order.Has]
mutual
def paydeskref10_RightEntry.j0 : Nat → Bool → Int → ByteArray → Int → ByteArray → Int → ByteArray → Int → Int → Option (Bool)
  | 0, _, _, _, _, _, _, _, _, _ => none
  | k + 1, x23, x212000, x212001, x212002, x212003, x212004, x212005, x212006, x212007 => if x23 = true then (some false) else (if x212002 = 1 then (paydeskref10_RightEntry.j1 k true x212000 x212001 x212002 x212003 x212004 x212005 x212006 x212007) else (if x212002 = 2 then (paydeskref10_RightEntry.j1 k true x212000 x212001 x212002 x212003 x212004 x212005 x212006 x212007) else (paydeskref10_RightEntry.j1 k (x212002 == 3) x212000 x212001 x212002 x212003 x212004 x212005 x212006 x212007)))
def paydeskref10_RightEntry.j1 : Nat → Bool → Int → ByteArray → Int → ByteArray → Int → ByteArray → Int → Int → Option (Bool)
  | 0, _, _, _, _, _, _, _, _, _ => none
  | k + 1, x36, x212000, x212001, x212002, x212003, x212004, x212005, x212006, x212007 => if x36 = true then (if x212006 = 0 then (paydeskref10_RightEntry.j2 k (x212007 != 0) x212000 x212001 x212002 x212003 x212004 x212005 x212006 x212007) else (paydeskref10_RightEntry.j2 k true x212000 x212001 x212002 x212003 x212004 x212005 x212006 x212007)) else (if x212002 > 3 then (if x212002 < 7 then ((paydeskref03_Right.f k 39 x212005).bind fun t218 => (if t218 = true then (if x212006 ≥ 0 then (if x212006 < 17 then (if x212007 > 0 then (some (decide (x212007 < 3))) else (some false)) else (some false)) else (some false)) else (some false))) else (some false)) else (some false))
def paydeskref10_RightEntry.j2 : Nat → Bool → Int → ByteArray → Int → ByteArray → Int → ByteArray → Int → Int → Option (Bool)
  | 0, _, _, _, _, _, _, _, _, _ => none
  | k + 1, x44, x212000, x212001, x212002, x212003, x212004, x212005, x212006, x212007 => if x44 = true then (some false) else (if x212002 = 1 then (if x212005.toList = ([] : List UInt8) then (some true) else (if x212002 = 2 then (if x212005.toList = ([48, 48] : List UInt8) then (some true) else (if x212002 = 3 then ((paydeskref03_Right.f k 39 x212005).bind fun t214 => (some t214)) else (some false))) else (if x212002 = 3 then (if x212005.toList = ([48, 48] : List UInt8) then (some false) else ((paydeskref03_Right.f k 39 x212005).bind fun t215 => (some t215))) else (some false)))) else (if x212002 = 2 then (if x212005.toList = ([48, 48] : List UInt8) then (some true) else (if x212002 = 3 then ((paydeskref03_Right.f k 39 x212005).bind fun t216 => (some t216)) else (some false))) else (if x212002 = 3 then (if x212005.toList = ([48, 48] : List UInt8) then (some false) else ((paydeskref03_Right.f k 39 x212005).bind fun t217 => (some t217))) else (some false))))
end
def paydeskref10_RightEntry.f (k : Nat) (a0_0 : Int) (a0_1 : ByteArray) (a0_2 : Int) (a0_3 : ByteArray) (a0_4 : Int) (a0_5 : ByteArray) (a0_6 : Int) (a0_7 : Int) : Option (Bool) := (paydeskref07_Right.f k a0_0 a0_1).bind fun t212 => (if t212 = true then ((paydeskref01_Fine.f k a0_3).bind fun t213 => (if t213 = true then (if (a0_3.size : Int) > 19 then (paydeskref10_RightEntry.j0 k true a0_0 a0_1 a0_2 a0_3 a0_4 a0_5 a0_6 a0_7) else (paydeskref10_RightEntry.j0 k (decide (a0_4 ≥ 1000000000000)) a0_0 a0_1 a0_2 a0_3 a0_4 a0_5 a0_6 a0_7)) else (paydeskref10_RightEntry.j0 k true a0_0 a0_1 a0_2 a0_3 a0_4 a0_5 a0_6 a0_7))) else (paydeskref10_RightEntry.j0 k true a0_0 a0_1 a0_2 a0_3 a0_4 a0_5 a0_6 a0_7))
theorem paydeskref10_RightEntry.mono_l : ∀ k, (∀ y0 y1 y2 y3 y4 y5 y6 y7 y8, LeO (paydeskref10_RightEntry.j0 k y0 y1 y2 y3 y4 y5 y6 y7 y8) (paydeskref10_RightEntry.j0 (k + 1) y0 y1 y2 y3 y4 y5 y6 y7 y8)) ∧ (∀ y0 y1 y2 y3 y4 y5 y6 y7 y8, LeO (paydeskref10_RightEntry.j1 k y0 y1 y2 y3 y4 y5 y6 y7 y8) (paydeskref10_RightEntry.j1 (k + 1) y0 y1 y2 y3 y4 y5 y6 y7 y8)) ∧ (∀ y0 y1 y2 y3 y4 y5 y6 y7 y8, LeO (paydeskref10_RightEntry.j2 k y0 y1 y2 y3 y4 y5 y6 y7 y8) (paydeskref10_RightEntry.j2 (k + 1) y0 y1 y2 y3 y4 y5 y6 y7 y8))
  | 0 => ⟨fun _ _ _ _ _ _ _ _ _ r h => by simp [paydeskref10_RightEntry.j0] at h, fun _ _ _ _ _ _ _ _ _ r h => by simp [paydeskref10_RightEntry.j1] at h, fun _ _ _ _ _ _ _ _ _ r h => by simp [paydeskref10_RightEntry.j2] at h⟩
  | k + 1 => by
    obtain ⟨ih0, ih1, ih2⟩ := paydeskref10_RightEntry.mono_l k
    refine ⟨?_, ?_, ?_⟩
    · intro y0 y1 y2 y3 y4 y5 y6 y7 y8
      unfold paydeskref10_RightEntry.j0
      repeat' first
      | (with_reducible exact ih0 _ _ _ _ _ _ _ _ _)
      | (with_reducible exact ih1 _ _ _ _ _ _ _ _ _)
      | (with_reducible exact ih2 _ _ _ _ _ _ _ _ _)
      | (with_reducible exact paydeskref01_Fine.mono _ _)
      | (with_reducible exact paydeskref03_Right.mono _ _ _)
      | (with_reducible exact paydeskref07_Right.mono _ _ _)
      | (with_reducible exact LeO.refl _)
      | (with_reducible exact LeO.none _)
      | (with_reducible refine LeO.ite ?_ ?_)
      | (with_reducible refine LeO.bind ?_ (fun _ => ?_))
      | exact ih0 _ _ _ _ _ _ _ _ _
      | exact ih1 _ _ _ _ _ _ _ _ _
      | exact ih2 _ _ _ _ _ _ _ _ _
      | exact paydeskref01_Fine.mono _ _
      | exact paydeskref03_Right.mono _ _ _
      | exact paydeskref07_Right.mono _ _ _
      | exact LeO.none _
      | refine LeO.ite ?_ ?_
      | refine LeO.bind ?_ (fun _ => ?_)
    · intro y0 y1 y2 y3 y4 y5 y6 y7 y8
      unfold paydeskref10_RightEntry.j1
      repeat' first
      | (with_reducible exact ih0 _ _ _ _ _ _ _ _ _)
      | (with_reducible exact ih1 _ _ _ _ _ _ _ _ _)
      | (with_reducible exact ih2 _ _ _ _ _ _ _ _ _)
      | (with_reducible exact paydeskref01_Fine.mono _ _)
      | (with_reducible exact paydeskref03_Right.mono _ _ _)
      | (with_reducible exact paydeskref07_Right.mono _ _ _)
      | (with_reducible exact LeO.refl _)
      | (with_reducible exact LeO.none _)
      | (with_reducible refine LeO.ite ?_ ?_)
      | (with_reducible refine LeO.bind ?_ (fun _ => ?_))
      | exact ih0 _ _ _ _ _ _ _ _ _
      | exact ih1 _ _ _ _ _ _ _ _ _
      | exact ih2 _ _ _ _ _ _ _ _ _
      | exact paydeskref01_Fine.mono _ _
      | exact paydeskref03_Right.mono _ _ _
      | exact paydeskref07_Right.mono _ _ _
      | exact LeO.none _
      | refine LeO.ite ?_ ?_
      | refine LeO.bind ?_ (fun _ => ?_)
    · intro y0 y1 y2 y3 y4 y5 y6 y7 y8
      unfold paydeskref10_RightEntry.j2
      repeat' first
      | (with_reducible exact ih0 _ _ _ _ _ _ _ _ _)
      | (with_reducible exact ih1 _ _ _ _ _ _ _ _ _)
      | (with_reducible exact ih2 _ _ _ _ _ _ _ _ _)
      | (with_reducible exact paydeskref01_Fine.mono _ _)
      | (with_reducible exact paydeskref03_Right.mono _ _ _)
      | (with_reducible exact paydeskref07_Right.mono _ _ _)
      | (with_reducible exact LeO.refl _)
      | (with_reducible exact LeO.none _)
      | (with_reducible refine LeO.ite ?_ ?_)
      | (with_reducible refine LeO.bind ?_ (fun _ => ?_))
      | exact ih0 _ _ _ _ _ _ _ _ _
      | exact ih1 _ _ _ _ _ _ _ _ _
      | exact ih2 _ _ _ _ _ _ _ _ _
      | exact paydeskref01_Fine.mono _ _
      | exact paydeskref03_Right.mono _ _ _
      | exact paydeskref07_Right.mono _ _ _
      | exact LeO.none _
      | refine LeO.ite ?_ ?_
      | refine LeO.bind ?_ (fun _ => ?_)
theorem paydeskref10_RightEntry.mono : ∀ a0 a1 a2 a3 a4 a5 a6 a7 k, LeO (paydeskref10_RightEntry.f k a0 a1 a2 a3 a4 a5 a6 a7) (paydeskref10_RightEntry.f (k + 1) a0 a1 a2 a3 a4 a5 a6 a7) := by
  intro a0 a1 a2 a3 a4 a5 a6 a7 k
  obtain ⟨ih0, ih1, ih2⟩ := paydeskref10_RightEntry.mono_l k
  unfold paydeskref10_RightEntry.f
  repeat' first
      | (with_reducible exact ih0 _ _ _ _ _ _ _ _ _)
      | (with_reducible exact ih1 _ _ _ _ _ _ _ _ _)
      | (with_reducible exact ih2 _ _ _ _ _ _ _ _ _)
      | (with_reducible exact paydeskref01_Fine.mono _ _)
      | (with_reducible exact paydeskref03_Right.mono _ _ _)
      | (with_reducible exact paydeskref07_Right.mono _ _ _)
      | (with_reducible exact LeO.refl _)
      | (with_reducible exact LeO.none _)
      | (with_reducible refine LeO.ite ?_ ?_)
      | (with_reducible refine LeO.bind ?_ (fun _ => ?_))
      | exact ih0 _ _ _ _ _ _ _ _ _
      | exact ih1 _ _ _ _ _ _ _ _ _
      | exact ih2 _ _ _ _ _ _ _ _ _
      | exact paydeskref01_Fine.mono _ _
      | exact paydeskref03_Right.mono _ _ _
      | exact paydeskref07_Right.mono _ _ _
      | exact LeO.none _
      | refine LeO.ite ?_ ?_
      | refine LeO.bind ?_ (fun _ => ?_)
set_option maxHeartbeats 8000000 in
set_option maxRecDepth 100000 in
theorem paydeskref10_RightEntry.calls (k : Nat) (a0_0 : Int) (a0_1 : ByteArray) (a0_2 : Int) (a0_3 : ByteArray) (a0_4 : Int) (a0_5 : ByteArray) (a0_6 : Int) (a0_7 : Int) (r : Bool) (w : World) (h : paydeskref10_RightEntry.f k a0_0 a0_1 a0_2 a0_3 a0_4 a0_5 a0_6 a0_7 = some r) :
    Calls Tryd.prog 22 #[.agg #[.int .u32 a0_0, .string a0_1, .int .i64 a0_2, .string a0_3, .int .u64 a0_4, .string a0_5, .int .i64 a0_6, .int .i64 a0_7]] w fun e w' => e = .returned (.bool r) ∧ Below w.heap.size w w' := by
  have hu28 := Tryd.underlying28
  have hu25 := Tryd.underlying25
  have HB := Aside0.mk (Below.refl w.heap.size w)
  have H : ((paydeskref07_Right.f k a0_0 a0_1).bind fun t212 => (if t212 = true then ((paydeskref01_Fine.f k a0_3).bind fun t213 => (if t213 = true then (if (a0_3.size : Int) > 19 then (paydeskref10_RightEntry.j0 k true a0_0 a0_1 a0_2 a0_3 a0_4 a0_5 a0_6 a0_7) else (paydeskref10_RightEntry.j0 k (decide (a0_4 ≥ 1000000000000)) a0_0 a0_1 a0_2 a0_3 a0_4 a0_5 a0_6 a0_7)) else (paydeskref10_RightEntry.j0 k true a0_0 a0_1 a0_2 a0_3 a0_4 a0_5 a0_6 a0_7))) else (paydeskref10_RightEntry.j0 k true a0_0 a0_1 a0_2 a0_3 a0_4 a0_5 a0_6 a0_7))) = some r := h
  clear h
  have HC2 := Aside0.mk H
  clear H
  go_enter Tryd.func22, Tryd.ntmps22
  go_upto_region 1 with (first | ((with_reducible refine gate_dst (N := 1) rfl ?_); (try (refine gate_guard (by rfl) ?_; dsimp only)); refine box_event ?hg (N := 1) ?hd (cs := #[.int .u32 a0_0, .string a0_1, .int .i64 a0_2, .string a0_3, .int .u64 a0_4, .string a0_5, .int .i64 a0_6, .int .i64 a0_7]) (t := 28) ?hr ?_; (case hd => rfl); (case hg => rfl); (case hr => first | (go_simp; done) | (go_simp; rfl)); intro gb211 hg w3 hbox hb; have n0_ := Aside0.mk (below_step (by repeat (first | (with_reducible first | exact HB.out | apply below_alloc | apply pw_below_drewN | apply below_drew1) | exact HB.out)) hb); have n1_ := Aside0.mk (hbox); have n2_ := Aside0.mk ((by rw [hg]; exact (below_size (by repeat (first | (with_reducible first | exact HB.out | apply below_alloc | apply pw_below_drewN | apply below_drew1) | exact HB.out))) : w.heap.size ≤ gb211)); have n3_ := Aside0.mk ((by rw [hg]; exact (below_size (by repeat (first | (with_reducible first | exact HB.out | apply below_alloc | apply pw_below_drewN | apply below_drew1) | exact HB.out))) : w.heap.size ≤ gb211)); clear HB; have HB := n0_; have BK211 := n1_; have GW211 := n2_; have GE211 := n3_; clear n0_ n1_ n2_ n3_; clear hb hbox hg))
  (try simp only [Act.put, List.setIfInBounds_toArray, List.set_cons_zero, List.set_cons_succ])
  go_cut [23] (fun v23 wc => ∃ (kq : Nat) (x23_1 : Bool), v23 = .bool x23_1 ∧ Aside0 (paydeskref10_RightEntry.j0 kq x23_1 a0_0 a0_1 a0_2 a0_3 a0_4 a0_5 a0_6 a0_7 = some r) ∧ Aside0 (kq ≤ k) ∧ Aside0 (wc.heap[gb211]? = some (.cells #[.int .u32 a0_0, .string a0_1, .int .i64 a0_2, .string a0_3, .int .u64 a0_4, .string a0_5, .int .i64 a0_6, .int .i64 a0_7] 28 (0, 0))) ∧ Aside0 (Below w.heap.size w wc))
  case first =>
    have H := HC2.out
    clear HC2
    replace H := Option.bind_eq_some_iff.mp H
    obtain ⟨t212, A40, H⟩ := H
    replace H : (if t212 = true then ((paydeskref01_Fine.f k a0_3).bind fun t213 => (if t213 = true then (if (a0_3.size : Int) > 19 then (paydeskref10_RightEntry.j0 k true a0_0 a0_1 a0_2 a0_3 a0_4 a0_5 a0_6 a0_7) else (paydeskref10_RightEntry.j0 k (decide (a0_4 ≥ 1000000000000)) a0_0 a0_1 a0_2 a0_3 a0_4 a0_5 a0_6 a0_7)) else (paydeskref10_RightEntry.j0 k true a0_0 a0_1 a0_2 a0_3 a0_4 a0_5 a0_6 a0_7))) else (paydeskref10_RightEntry.j0 k true a0_0 a0_1 a0_2 a0_3 a0_4 a0_5 a0_6 a0_7)) = some r := H
    have A4 := Aside0.mk A40
    clear A40
    by_cases c5 : t212 = true
    · subst c5
      have H1 : ((paydeskref01_Fine.f k a0_3).bind fun t213 => (if t213 = true then (if (a0_3.size : Int) > 19 then (paydeskref10_RightEntry.j0 k true a0_0 a0_1 a0_2 a0_3 a0_4 a0_5 a0_6 a0_7) else (paydeskref10_RightEntry.j0 k (decide (a0_4 ≥ 1000000000000)) a0_0 a0_1 a0_2 a0_3 a0_4 a0_5 a0_6 a0_7)) else (paydeskref10_RightEntry.j0 k true a0_0 a0_1 a0_2 a0_3 a0_4 a0_5 a0_6 a0_7))) = some r := by rw [if_pos rfl] at H; exact H
      clear H
      have H := H1
      clear H1
      replace H := Option.bind_eq_some_iff.mp H
      obtain ⟨t213, A60, H⟩ := H
      replace H : (if t213 = true then (if (a0_3.size : Int) > 19 then (paydeskref10_RightEntry.j0 k true a0_0 a0_1 a0_2 a0_3 a0_4 a0_5 a0_6 a0_7) else (paydeskref10_RightEntry.j0 k (decide (a0_4 ≥ 1000000000000)) a0_0 a0_1 a0_2 a0_3 a0_4 a0_5 a0_6 a0_7)) else (paydeskref10_RightEntry.j0 k true a0_0 a0_1 a0_2 a0_3 a0_4 a0_5 a0_6 a0_7)) = some r := H
      have A6 := Aside0.mk A60
      clear A60
      by_cases c7 : t213 = true
      · subst c7
        have H1 : (if (a0_3.size : Int) > 19 then (paydeskref10_RightEntry.j0 k true a0_0 a0_1 a0_2 a0_3 a0_4 a0_5 a0_6 a0_7) else (paydeskref10_RightEntry.j0 k (decide (a0_4 ≥ 1000000000000)) a0_0 a0_1 a0_2 a0_3 a0_4 a0_5 a0_6 a0_7)) = some r := by rw [if_pos rfl] at H; exact H
        clear H
        have H := H1
        clear H1
        by_cases c8 : (a0_3.size : Int) > 19
        · rw [if_pos c8] at H
          have c8b0 : decide (19 < (a0_3.size : Int)) = true := decide_eq_true c8
          have c8b1 : decide (19 < a0_3.size) = true := decide_eq_true (by omega)
          clear c8
          (first | rw [c8b0] | (simp only [i64_w, i32_w]; rw [c8b0]) | skip)
          have H' := Aside0.mk H
          clear H
          have hcz9_0 : w3.cell? ⟨gb211, 0, none⟩ = some (.int .u32 a0_0) := (blk_cell BK211.out 0).trans rfl
          have hcz9_1 : w3.cell? ⟨gb211, 1, none⟩ = some (.string a0_1) := (blk_cell BK211.out 1).trans rfl
          have hcz9_2 : w3.cell? ⟨gb211, 2, none⟩ = some (.int .i64 a0_2) := (blk_cell BK211.out 2).trans rfl
          have hcz9_3 : w3.cell? ⟨gb211, 3, none⟩ = some (.string a0_3) := (blk_cell BK211.out 3).trans rfl
          have hcz9_4 : w3.cell? ⟨gb211, 4, none⟩ = some (.int .u64 a0_4) := (blk_cell BK211.out 4).trans rfl
          have hcz9_5 : w3.cell? ⟨gb211, 5, none⟩ = some (.string a0_5) := (blk_cell BK211.out 5).trans rfl
          have hcz9_6 : w3.cell? ⟨gb211, 6, none⟩ = some (.int .i64 a0_6) := (blk_cell BK211.out 6).trans rfl
          have hcz9_7 : w3.cell? ⟨gb211, 7, none⟩ = some (.int .i64 a0_7) := (blk_cell BK211.out 7).trans rfl
          have hfz9_0 := blk_frozen BK211.out 0
          have hfz9_1 := blk_frozen BK211.out 1
          have hfz9_2 := blk_frozen BK211.out 2
          have hfz9_3 := blk_frozen BK211.out 3
          have hfz9_4 := blk_frozen BK211.out 4
          have hfz9_5 := blk_frozen BK211.out 5
          have hfz9_6 := blk_frozen BK211.out 6
          have hfz9_7 := blk_frozen BK211.out 7
          go_wp2_with (first | ((with_reducible refine gate_callee (f := 48) rfl ?_); refine goesL_ (some 5) rfl rfl Tryd.func48 (by kernel_rfl) rfl #[.agg #[.int .u32 a0_0, .string a0_1]] rfl (by (try simp only [List.map_toArray, List.map_cons, List.map_nil]); first | done | rfl | (simp only [List.length_drop, List.length_take]; rfl)) ?_; (with_reducible refine (paydeskref07_Right.calls k a0_0 a0_1 true _ A4.out).mono ?_); rintro e w10 ⟨rfl, hb⟩; refine ⟨_, rfl, ?_⟩; have n0_ := Aside0.mk (blk_below (g := gb211) (o := .cells #[.int .u32 a0_0, .string a0_1, .int .i64 a0_2, .string a0_3, .int .u64 a0_4, .string a0_5, .int .i64 a0_6, .int .i64 a0_7] 28 (0, 0)) (by (with_reducible repeat (first | refine blk_drewN ?_ _ | refine blk_drew ?_ | refine blk_alloc ?_ _)); exact BK211.out) hb); have n1_ := Aside0.mk (below_step (by repeat (first | (with_reducible first | exact HB.out | apply below_alloc | apply pw_below_drewN | apply below_drew1 | refine below_set ?_ GE211.out) | exact HB.out)) hb); clear BK211; clear HB; have BK211 := n0_; have HB := n1_; clear n0_ n1_; (try clear hb); (try clear hb2); (try clear hk); (try clear hi); have hcz11_0 : w10.cell? ⟨gb211, 0, none⟩ = some (.int .u32 a0_0) := (blk_cell BK211.out 0).trans rfl; have hcz11_1 : w10.cell? ⟨gb211, 1, none⟩ = some (.string a0_1) := (blk_cell BK211.out 1).trans rfl; have hcz11_2 : w10.cell? ⟨gb211, 2, none⟩ = some (.int .i64 a0_2) := (blk_cell BK211.out 2).trans rfl; have hcz11_3 : w10.cell? ⟨gb211, 3, none⟩ = some (.string a0_3) := (blk_cell BK211.out 3).trans rfl; have hcz11_4 : w10.cell? ⟨gb211, 4, none⟩ = some (.int .u64 a0_4) := (blk_cell BK211.out 4).trans rfl; have hcz11_5 : w10.cell? ⟨gb211, 5, none⟩ = some (.string a0_5) := (blk_cell BK211.out 5).trans rfl; have hcz11_6 : w10.cell? ⟨gb211, 6, none⟩ = some (.int .i64 a0_6) := (blk_cell BK211.out 6).trans rfl; have hcz11_7 : w10.cell? ⟨gb211, 7, none⟩ = some (.int .i64 a0_7) := (blk_cell BK211.out 7).trans rfl; have hfz11_0 := blk_frozen BK211.out 0; have hfz11_1 := blk_frozen BK211.out 1; have hfz11_2 := blk_frozen BK211.out 2; have hfz11_3 := blk_frozen BK211.out 3; have hfz11_4 := blk_frozen BK211.out 4; have hfz11_5 := blk_frozen BK211.out 5; have hfz11_6 := blk_frozen BK211.out 6; have hfz11_7 := blk_frozen BK211.out 7) | (go_at_call 49; (with_reducible refine (paydeskref01_Fine.calls k a0_3 true _ A6.out).mono ?_); rintro e w' ⟨rfl, ⟨nd, rfl⟩⟩))
          go_meet
          case rel => exact ⟨_, (true), (by first | rfl | (simp; done) | (simp [*]; done)), H', ⟨by first | omega | exact Nat.le_refl _⟩, ⟨by (with_reducible repeat (first | refine blk_drewN ?_ _ | refine blk_drew ?_ | refine blk_alloc ?_ _)); exact BK211.out⟩, ⟨by repeat (first | (with_reducible first | exact HB.out | apply below_alloc | apply pw_below_drewN | apply below_drew1 | refine below_set ?_ GE211.out) | exact HB.out)⟩⟩
        · rw [if_neg c8] at H
          have c8b0 : decide (19 < (a0_3.size : Int)) = false := decide_eq_false c8
          have c8b1 : decide (19 < a0_3.size) = false := decide_eq_false (by omega)
          clear c8
          (first | rw [c8b0] | (simp only [i64_w, i32_w]; rw [c8b0]) | skip)
          have H' := Aside0.mk H
          clear H
          have hcz12_0 : w3.cell? ⟨gb211, 0, none⟩ = some (.int .u32 a0_0) := (blk_cell BK211.out 0).trans rfl
          have hcz12_1 : w3.cell? ⟨gb211, 1, none⟩ = some (.string a0_1) := (blk_cell BK211.out 1).trans rfl
          have hcz12_2 : w3.cell? ⟨gb211, 2, none⟩ = some (.int .i64 a0_2) := (blk_cell BK211.out 2).trans rfl
          have hcz12_3 : w3.cell? ⟨gb211, 3, none⟩ = some (.string a0_3) := (blk_cell BK211.out 3).trans rfl
          have hcz12_4 : w3.cell? ⟨gb211, 4, none⟩ = some (.int .u64 a0_4) := (blk_cell BK211.out 4).trans rfl
          have hcz12_5 : w3.cell? ⟨gb211, 5, none⟩ = some (.string a0_5) := (blk_cell BK211.out 5).trans rfl
          have hcz12_6 : w3.cell? ⟨gb211, 6, none⟩ = some (.int .i64 a0_6) := (blk_cell BK211.out 6).trans rfl
          have hcz12_7 : w3.cell? ⟨gb211, 7, none⟩ = some (.int .i64 a0_7) := (blk_cell BK211.out 7).trans rfl
          have hfz12_0 := blk_frozen BK211.out 0
          have hfz12_1 := blk_frozen BK211.out 1
          have hfz12_2 := blk_frozen BK211.out 2
          have hfz12_3 := blk_frozen BK211.out 3
          have hfz12_4 := blk_frozen BK211.out 4
          have hfz12_5 := blk_frozen BK211.out 5
          have hfz12_6 := blk_frozen BK211.out 6
          have hfz12_7 := blk_frozen BK211.out 7
          go_wp2_with (first | ((with_reducible refine gate_callee (f := 48) rfl ?_); refine goesL_ (some 5) rfl rfl Tryd.func48 (by kernel_rfl) rfl #[.agg #[.int .u32 a0_0, .string a0_1]] rfl (by (try simp only [List.map_toArray, List.map_cons, List.map_nil]); first | done | rfl | (simp only [List.length_drop, List.length_take]; rfl)) ?_; (with_reducible refine (paydeskref07_Right.calls k a0_0 a0_1 true _ A4.out).mono ?_); rintro e w13 ⟨rfl, hb⟩; refine ⟨_, rfl, ?_⟩; have n0_ := Aside0.mk (blk_below (g := gb211) (o := .cells #[.int .u32 a0_0, .string a0_1, .int .i64 a0_2, .string a0_3, .int .u64 a0_4, .string a0_5, .int .i64 a0_6, .int .i64 a0_7] 28 (0, 0)) (by (with_reducible repeat (first | refine blk_drewN ?_ _ | refine blk_drew ?_ | refine blk_alloc ?_ _)); exact BK211.out) hb); have n1_ := Aside0.mk (below_step (by repeat (first | (with_reducible first | exact HB.out | apply below_alloc | apply pw_below_drewN | apply below_drew1 | refine below_set ?_ GE211.out) | exact HB.out)) hb); clear BK211; clear HB; have BK211 := n0_; have HB := n1_; clear n0_ n1_; (try clear hb); (try clear hb2); (try clear hk); (try clear hi); have hcz14_0 : w13.cell? ⟨gb211, 0, none⟩ = some (.int .u32 a0_0) := (blk_cell BK211.out 0).trans rfl; have hcz14_1 : w13.cell? ⟨gb211, 1, none⟩ = some (.string a0_1) := (blk_cell BK211.out 1).trans rfl; have hcz14_2 : w13.cell? ⟨gb211, 2, none⟩ = some (.int .i64 a0_2) := (blk_cell BK211.out 2).trans rfl; have hcz14_3 : w13.cell? ⟨gb211, 3, none⟩ = some (.string a0_3) := (blk_cell BK211.out 3).trans rfl; have hcz14_4 : w13.cell? ⟨gb211, 4, none⟩ = some (.int .u64 a0_4) := (blk_cell BK211.out 4).trans rfl; have hcz14_5 : w13.cell? ⟨gb211, 5, none⟩ = some (.string a0_5) := (blk_cell BK211.out 5).trans rfl; have hcz14_6 : w13.cell? ⟨gb211, 6, none⟩ = some (.int .i64 a0_6) := (blk_cell BK211.out 6).trans rfl; have hcz14_7 : w13.cell? ⟨gb211, 7, none⟩ = some (.int .i64 a0_7) := (blk_cell BK211.out 7).trans rfl; have hfz14_0 := blk_frozen BK211.out 0; have hfz14_1 := blk_frozen BK211.out 1; have hfz14_2 := blk_frozen BK211.out 2; have hfz14_3 := blk_frozen BK211.out 3; have hfz14_4 := blk_frozen BK211.out 4; have hfz14_5 := blk_frozen BK211.out 5; have hfz14_6 := blk_frozen BK211.out 6; have hfz14_7 := blk_frozen BK211.out 7) | (go_at_call 49; (with_reducible refine (paydeskref01_Fine.calls k a0_3 true _ A6.out).mono ?_); rintro e w' ⟨rfl, ⟨nd, rfl⟩⟩))
          go_meet
          case rel => exact ⟨_, (decide (a0_4 ≥ 1000000000000)), (by first | rfl | (simp; done) | (simp [*]; done)), H', ⟨by first | omega | exact Nat.le_refl _⟩, ⟨by (with_reducible repeat (first | refine blk_drewN ?_ _ | refine blk_drew ?_ | refine blk_alloc ?_ _)); exact BK211.out⟩, ⟨by repeat (first | (with_reducible first | exact HB.out | apply below_alloc | apply pw_below_drewN | apply below_drew1 | refine below_set ?_ GE211.out) | exact HB.out)⟩⟩
      · replace c7 := Bool.eq_false_iff.mpr c7
        subst c7
        have H1 : (paydeskref10_RightEntry.j0 k true a0_0 a0_1 a0_2 a0_3 a0_4 a0_5 a0_6 a0_7) = some r := by rw [if_neg (show ¬ (false = true) by decide)] at H; exact H
        clear H
        have H := H1
        clear H1
        have H' := Aside0.mk H
        clear H
        have hcz15_0 : w3.cell? ⟨gb211, 0, none⟩ = some (.int .u32 a0_0) := (blk_cell BK211.out 0).trans rfl
        have hcz15_1 : w3.cell? ⟨gb211, 1, none⟩ = some (.string a0_1) := (blk_cell BK211.out 1).trans rfl
        have hcz15_2 : w3.cell? ⟨gb211, 2, none⟩ = some (.int .i64 a0_2) := (blk_cell BK211.out 2).trans rfl
        have hcz15_3 : w3.cell? ⟨gb211, 3, none⟩ = some (.string a0_3) := (blk_cell BK211.out 3).trans rfl
        have hcz15_4 : w3.cell? ⟨gb211, 4, none⟩ = some (.int .u64 a0_4) := (blk_cell BK211.out 4).trans rfl
        have hcz15_5 : w3.cell? ⟨gb211, 5, none⟩ = some (.string a0_5) := (blk_cell BK211.out 5).trans rfl
        have hcz15_6 : w3.cell? ⟨gb211, 6, none⟩ = some (.int .i64 a0_6) := (blk_cell BK211.out 6).trans rfl
        have hcz15_7 : w3.cell? ⟨gb211, 7, none⟩ = some (.int .i64 a0_7) := (blk_cell BK211.out 7).trans rfl
        have hfz15_0 := blk_frozen BK211.out 0
        have hfz15_1 := blk_frozen BK211.out 1
        have hfz15_2 := blk_frozen BK211.out 2
        have hfz15_3 := blk_frozen BK211.out 3
        have hfz15_4 := blk_frozen BK211.out 4
        have hfz15_5 := blk_frozen BK211.out 5
        have hfz15_6 := blk_frozen BK211.out 6
        have hfz15_7 := blk_frozen BK211.out 7
        go_wp2_with (first | ((with_reducible refine gate_callee (f := 48) rfl ?_); refine goesL_ (some 5) rfl rfl Tryd.func48 (by kernel_rfl) rfl #[.agg #[.int .u32 a0_0, .string a0_1]] rfl (by (try simp only [List.map_toArray, List.map_cons, List.map_nil]); first | done | rfl | (simp only [List.length_drop, List.length_take]; rfl)) ?_; (with_reducible refine (paydeskref07_Right.calls k a0_0 a0_1 true _ A4.out).mono ?_); rintro e w16 ⟨rfl, hb⟩; refine ⟨_, rfl, ?_⟩; have n0_ := Aside0.mk (blk_below (g := gb211) (o := .cells #[.int .u32 a0_0, .string a0_1, .int .i64 a0_2, .string a0_3, .int .u64 a0_4, .string a0_5, .int .i64 a0_6, .int .i64 a0_7] 28 (0, 0)) (by (with_reducible repeat (first | refine blk_drewN ?_ _ | refine blk_drew ?_ | refine blk_alloc ?_ _)); exact BK211.out) hb); have n1_ := Aside0.mk (below_step (by repeat (first | (with_reducible first | exact HB.out | apply below_alloc | apply pw_below_drewN | apply below_drew1 | refine below_set ?_ GE211.out) | exact HB.out)) hb); clear BK211; clear HB; have BK211 := n0_; have HB := n1_; clear n0_ n1_; (try clear hb); (try clear hb2); (try clear hk); (try clear hi); have hcz17_0 : w16.cell? ⟨gb211, 0, none⟩ = some (.int .u32 a0_0) := (blk_cell BK211.out 0).trans rfl; have hcz17_1 : w16.cell? ⟨gb211, 1, none⟩ = some (.string a0_1) := (blk_cell BK211.out 1).trans rfl; have hcz17_2 : w16.cell? ⟨gb211, 2, none⟩ = some (.int .i64 a0_2) := (blk_cell BK211.out 2).trans rfl; have hcz17_3 : w16.cell? ⟨gb211, 3, none⟩ = some (.string a0_3) := (blk_cell BK211.out 3).trans rfl; have hcz17_4 : w16.cell? ⟨gb211, 4, none⟩ = some (.int .u64 a0_4) := (blk_cell BK211.out 4).trans rfl; have hcz17_5 : w16.cell? ⟨gb211, 5, none⟩ = some (.string a0_5) := (blk_cell BK211.out 5).trans rfl; have hcz17_6 : w16.cell? ⟨gb211, 6, none⟩ = some (.int .i64 a0_6) := (blk_cell BK211.out 6).trans rfl; have hcz17_7 : w16.cell? ⟨gb211, 7, none⟩ = some (.int .i64 a0_7) := (blk_cell BK211.out 7).trans rfl; have hfz17_0 := blk_frozen BK211.out 0; have hfz17_1 := blk_frozen BK211.out 1; have hfz17_2 := blk_frozen BK211.out 2; have hfz17_3 := blk_frozen BK211.out 3; have hfz17_4 := blk_frozen BK211.out 4; have hfz17_5 := blk_frozen BK211.out 5; have hfz17_6 := blk_frozen BK211.out 6; have hfz17_7 := blk_frozen BK211.out 7) | (go_at_call 49; (with_reducible refine (paydeskref01_Fine.calls k a0_3 false _ A6.out).mono ?_); rintro e w' ⟨rfl, ⟨nd, rfl⟩⟩))
        go_meet
        case rel => exact ⟨_, (true), (by first | rfl | (simp; done) | (simp [*]; done)), H', ⟨by first | omega | exact Nat.le_refl _⟩, ⟨by (with_reducible repeat (first | refine blk_drewN ?_ _ | refine blk_drew ?_ | refine blk_alloc ?_ _)); exact BK211.out⟩, ⟨by repeat (first | (with_reducible first | exact HB.out | apply below_alloc | apply pw_below_drewN | apply below_drew1 | refine below_set ?_ GE211.out) | exact HB.out)⟩⟩
    · replace c5 := Bool.eq_false_iff.mpr c5
      subst c5
      have H1 : (paydeskref10_RightEntry.j0 k true a0_0 a0_1 a0_2 a0_3 a0_4 a0_5 a0_6 a0_7) = some r := by rw [if_neg (show ¬ (false = true) by decide)] at H; exact H
      clear H
      have H := H1
      clear H1
      have H' := Aside0.mk H
      clear H
      have hcz18_0 : w3.cell? ⟨gb211, 0, none⟩ = some (.int .u32 a0_0) := (blk_cell BK211.out 0).trans rfl
      have hcz18_1 : w3.cell? ⟨gb211, 1, none⟩ = some (.string a0_1) := (blk_cell BK211.out 1).trans rfl
      have hcz18_2 : w3.cell? ⟨gb211, 2, none⟩ = some (.int .i64 a0_2) := (blk_cell BK211.out 2).trans rfl
      have hcz18_3 : w3.cell? ⟨gb211, 3, none⟩ = some (.string a0_3) := (blk_cell BK211.out 3).trans rfl
      have hcz18_4 : w3.cell? ⟨gb211, 4, none⟩ = some (.int .u64 a0_4) := (blk_cell BK211.out 4).trans rfl
      have hcz18_5 : w3.cell? ⟨gb211, 5, none⟩ = some (.string a0_5) := (blk_cell BK211.out 5).trans rfl
      have hcz18_6 : w3.cell? ⟨gb211, 6, none⟩ = some (.int .i64 a0_6) := (blk_cell BK211.out 6).trans rfl
      have hcz18_7 : w3.cell? ⟨gb211, 7, none⟩ = some (.int .i64 a0_7) := (blk_cell BK211.out 7).trans rfl
      have hfz18_0 := blk_frozen BK211.out 0
      have hfz18_1 := blk_frozen BK211.out 1
      have hfz18_2 := blk_frozen BK211.out 2
      have hfz18_3 := blk_frozen BK211.out 3
      have hfz18_4 := blk_frozen BK211.out 4
      have hfz18_5 := blk_frozen BK211.out 5
      have hfz18_6 := blk_frozen BK211.out 6
      have hfz18_7 := blk_frozen BK211.out 7
      go_wp2_with (first | ((with_reducible refine gate_callee (f := 48) rfl ?_); refine goesL_ (some 5) rfl rfl Tryd.func48 (by kernel_rfl) rfl #[.agg #[.int .u32 a0_0, .string a0_1]] rfl (by (try simp only [List.map_toArray, List.map_cons, List.map_nil]); first | done | rfl | (simp only [List.length_drop, List.length_take]; rfl)) ?_; (with_reducible refine (paydeskref07_Right.calls k a0_0 a0_1 false _ A4.out).mono ?_); rintro e w19 ⟨rfl, hb⟩; refine ⟨_, rfl, ?_⟩; have n0_ := Aside0.mk (blk_below (g := gb211) (o := .cells #[.int .u32 a0_0, .string a0_1, .int .i64 a0_2, .string a0_3, .int .u64 a0_4, .string a0_5, .int .i64 a0_6, .int .i64 a0_7] 28 (0, 0)) (by (with_reducible repeat (first | refine blk_drewN ?_ _ | refine blk_drew ?_ | refine blk_alloc ?_ _)); exact BK211.out) hb); have n1_ := Aside0.mk (below_step (by repeat (first | (with_reducible first | exact HB.out | apply below_alloc | apply pw_below_drewN | apply below_drew1 | refine below_set ?_ GE211.out) | exact HB.out)) hb); clear BK211; clear HB; have BK211 := n0_; have HB := n1_; clear n0_ n1_; (try clear hb); (try clear hb2); (try clear hk); (try clear hi)))
      go_meet
      case rel => exact ⟨_, (true), (by first | rfl | (simp; done) | (simp [*]; done)), H', ⟨by first | omega | exact Nat.le_refl _⟩, ⟨by (with_reducible repeat (first | refine blk_drewN ?_ _ | refine blk_drew ?_ | refine blk_alloc ?_ _)); exact BK211.out⟩, ⟨by repeat (first | (with_reducible first | exact HB.out | apply below_alloc | apply pw_below_drewN | apply below_drew1 | refine below_set ?_ GE211.out) | exact HB.out)⟩⟩
  case rest =>
    clear HC2
    try clear c2
    try clear p2
    try clear c4
    try clear c5
    try clear c7
    try clear c8
    try clear c8b0
    try clear c8b1
    try clear hcz11_0
    try clear hcz11_1
    try clear hcz11_2
    try clear hcz11_3
    try clear hcz11_4
    try clear hcz11_5
    try clear hcz11_6
    try clear hcz11_7
    try clear hcz12_0
    try clear hcz12_1
    try clear hcz12_2
    try clear hcz12_3
    try clear hcz12_4
    try clear hcz12_5
    try clear hcz12_6
    try clear hcz12_7
    try clear hcz14_0
    try clear hcz14_1
    try clear hcz14_2
    try clear hcz14_3
    try clear hcz14_4
    try clear hcz14_5
    try clear hcz14_6
    try clear hcz14_7
    try clear hcz15_0
    try clear hcz15_1
    try clear hcz15_2
    try clear hcz15_3
    try clear hcz15_4
    try clear hcz15_5
    try clear hcz15_6
    try clear hcz15_7
    try clear hcz17_0
    try clear hcz17_1
    try clear hcz17_2
    try clear hcz17_3
    try clear hcz17_4
    try clear hcz17_5
    try clear hcz17_6
    try clear hcz17_7
    try clear hcz18_0
    try clear hcz18_1
    try clear hcz18_2
    try clear hcz18_3
    try clear hcz18_4
    try clear hcz18_5
    try clear hcz18_6
    try clear hcz18_7
    try clear hcz9_0
    try clear hcz9_1
    try clear hcz9_2
    try clear hcz9_3
    try clear hcz9_4
    try clear hcz9_5
    try clear hcz9_6
    try clear hcz9_7
    try clear hfz11_0
    try clear hfz11_1
    try clear hfz11_2
    try clear hfz11_3
    try clear hfz11_4
    try clear hfz11_5
    try clear hfz11_6
    try clear hfz11_7
    try clear hfz12_0
    try clear hfz12_1
    try clear hfz12_2
    try clear hfz12_3
    try clear hfz12_4
    try clear hfz12_5
    try clear hfz12_6
    try clear hfz12_7
    try clear hfz14_0
    try clear hfz14_1
    try clear hfz14_2
    try clear hfz14_3
    try clear hfz14_4
    try clear hfz14_5
    try clear hfz14_6
    try clear hfz14_7
    try clear hfz15_0
    try clear hfz15_1
    try clear hfz15_2
    try clear hfz15_3
    try clear hfz15_4
    try clear hfz15_5
    try clear hfz15_6
    try clear hfz15_7
    try clear hfz17_0
    try clear hfz17_1
    try clear hfz17_2
    try clear hfz17_3
    try clear hfz17_4
    try clear hfz17_5
    try clear hfz17_6
    try clear hfz17_7
    try clear hfz18_0
    try clear hfz18_1
    try clear hfz18_2
    try clear hfz18_3
    try clear hfz18_4
    try clear hfz18_5
    try clear hfz18_6
    try clear hfz18_7
    try clear hfz9_0
    try clear hfz9_1
    try clear hfz9_2
    try clear hfz9_3
    try clear hfz9_4
    try clear hfz9_5
    try clear hfz9_6
    try clear hfz9_7
    obtain ⟨kq, x23_1, rfl, HA, HJ1, BK211, HB⟩ := hcut
    cases kq with
    | zero => exact absurd HA.out (by simp [paydeskref10_RightEntry.j0])
    | succ kj1 =>
      have H := HA.out
      clear HA
      simp only [paydeskref10_RightEntry.j0] at H
      by_cases c20 : x23_1 = true
      · subst c20
        have H1 : (some false) = some r := by rw [if_pos rfl] at H; exact H
        clear H
        have H := H1
        clear H1
        obtain rfl := Option.some.inj H
        go_wp2
        go_ret
        exact ⟨by first | rfl | (simp [errW_none, errW_some] <;> rfl) | (simp [*, errW_none, errW_some] <;> rfl), by repeat (first | (with_reducible first | exact HB.out | apply below_alloc | apply pw_below_drewN | apply below_drew1 | refine below_set ?_ GE211.out) | exact HB.out)⟩
      · replace c20 := Bool.eq_false_iff.mpr c20
        subst c20
        have H1 : (if a0_2 = 1 then (paydeskref10_RightEntry.j1 kj1 true a0_0 a0_1 a0_2 a0_3 a0_4 a0_5 a0_6 a0_7) else (if a0_2 = 2 then (paydeskref10_RightEntry.j1 kj1 true a0_0 a0_1 a0_2 a0_3 a0_4 a0_5 a0_6 a0_7) else (paydeskref10_RightEntry.j1 kj1 (a0_2 == 3) a0_0 a0_1 a0_2 a0_3 a0_4 a0_5 a0_6 a0_7))) = some r := by rw [if_neg (show ¬ (false = true) by decide)] at H; exact H
        clear H
        have H := H1
        clear H1
        have HC21 := Aside0.mk H
        clear H
        go_upto_region 3 with (fail)
        go_cut [36] (fun v36 wc => ∃ (kq : Nat) (x36_20 : Bool), v36 = .bool x36_20 ∧ Aside0 (paydeskref10_RightEntry.j1 kq x36_20 a0_0 a0_1 a0_2 a0_3 a0_4 a0_5 a0_6 a0_7 = some r) ∧ Aside0 (kq ≤ kj1) ∧ Aside0 (wc.heap[gb211]? = some (.cells #[.int .u32 a0_0, .string a0_1, .int .i64 a0_2, .string a0_3, .int .u64 a0_4, .string a0_5, .int .i64 a0_6, .int .i64 a0_7] 28 (0, 0))) ∧ Aside0 (Below w.heap.size w wc))
        case first =>
          have H := HC21.out
          clear HC21
          by_cases c22 : a0_2 = 1
          · rw [if_pos c22] at H
            have c22b0 : (a0_2 == 1) = true := beq_iff_eq.mpr c22
            have c22b1 : (a0_2 != 1) = false := bne_eq_false_iff_eq.mpr c22
            clear c22
            (first | rw [c22b0] | (simp only [i64_w, i32_w]; rw [c22b0]) | skip)
            have H' := Aside0.mk H
            clear H
            have hcz23_0 : wc.cell? ⟨gb211, 0, none⟩ = some (.int .u32 a0_0) := (blk_cell BK211.out 0).trans rfl
            have hcz23_1 : wc.cell? ⟨gb211, 1, none⟩ = some (.string a0_1) := (blk_cell BK211.out 1).trans rfl
            have hcz23_2 : wc.cell? ⟨gb211, 2, none⟩ = some (.int .i64 a0_2) := (blk_cell BK211.out 2).trans rfl
            have hcz23_3 : wc.cell? ⟨gb211, 3, none⟩ = some (.string a0_3) := (blk_cell BK211.out 3).trans rfl
            have hcz23_4 : wc.cell? ⟨gb211, 4, none⟩ = some (.int .u64 a0_4) := (blk_cell BK211.out 4).trans rfl
            have hcz23_5 : wc.cell? ⟨gb211, 5, none⟩ = some (.string a0_5) := (blk_cell BK211.out 5).trans rfl
            have hcz23_6 : wc.cell? ⟨gb211, 6, none⟩ = some (.int .i64 a0_6) := (blk_cell BK211.out 6).trans rfl
            have hcz23_7 : wc.cell? ⟨gb211, 7, none⟩ = some (.int .i64 a0_7) := (blk_cell BK211.out 7).trans rfl
            have hfz23_0 := blk_frozen BK211.out 0
            have hfz23_1 := blk_frozen BK211.out 1
            have hfz23_2 := blk_frozen BK211.out 2
            have hfz23_3 := blk_frozen BK211.out 3
            have hfz23_4 := blk_frozen BK211.out 4
            have hfz23_5 := blk_frozen BK211.out 5
            have hfz23_6 := blk_frozen BK211.out 6
            have hfz23_7 := blk_frozen BK211.out 7
            go_wp2
            go_meet
            case rel => exact ⟨_, (true), (by first | rfl | (simp; done) | (simp [*]; done)), H', ⟨by have := HJ1.out; first | omega | exact Nat.le_refl _⟩, ⟨by (with_reducible repeat (first | refine blk_drewN ?_ _ | refine blk_drew ?_ | refine blk_alloc ?_ _)); exact BK211.out⟩, ⟨by repeat (first | (with_reducible first | exact HB.out | apply below_alloc | apply pw_below_drewN | apply below_drew1 | refine below_set ?_ GE211.out) | exact HB.out)⟩⟩
          · rw [if_neg c22] at H
            have c22b0 : (a0_2 == 1) = false := beq_eq_false_iff_ne.mpr c22
            have c22b1 : (a0_2 != 1) = true := bne_iff_ne.mpr c22
            (first | rw [c22b0] | (simp only [i64_w, i32_w]; rw [c22b0]) | skip)
            by_cases c24 : a0_2 = 2
            · rw [if_pos c24] at H
              have c24b0 : (a0_2 == 2) = true := beq_iff_eq.mpr c24
              have c24b1 : (a0_2 != 2) = false := bne_eq_false_iff_eq.mpr c24
              clear c24
              have H' := Aside0.mk H
              clear H
              have hcz25_0 : wc.cell? ⟨gb211, 0, none⟩ = some (.int .u32 a0_0) := (blk_cell BK211.out 0).trans rfl
              have hcz25_1 : wc.cell? ⟨gb211, 1, none⟩ = some (.string a0_1) := (blk_cell BK211.out 1).trans rfl
              have hcz25_2 : wc.cell? ⟨gb211, 2, none⟩ = some (.int .i64 a0_2) := (blk_cell BK211.out 2).trans rfl
              have hcz25_3 : wc.cell? ⟨gb211, 3, none⟩ = some (.string a0_3) := (blk_cell BK211.out 3).trans rfl
              have hcz25_4 : wc.cell? ⟨gb211, 4, none⟩ = some (.int .u64 a0_4) := (blk_cell BK211.out 4).trans rfl
              have hcz25_5 : wc.cell? ⟨gb211, 5, none⟩ = some (.string a0_5) := (blk_cell BK211.out 5).trans rfl
              have hcz25_6 : wc.cell? ⟨gb211, 6, none⟩ = some (.int .i64 a0_6) := (blk_cell BK211.out 6).trans rfl
              have hcz25_7 : wc.cell? ⟨gb211, 7, none⟩ = some (.int .i64 a0_7) := (blk_cell BK211.out 7).trans rfl
              have hfz25_0 := blk_frozen BK211.out 0
              have hfz25_1 := blk_frozen BK211.out 1
              have hfz25_2 := blk_frozen BK211.out 2
              have hfz25_3 := blk_frozen BK211.out 3
              have hfz25_4 := blk_frozen BK211.out 4
              have hfz25_5 := blk_frozen BK211.out 5
              have hfz25_6 := blk_frozen BK211.out 6
              have hfz25_7 := blk_frozen BK211.out 7
              go_wp2
              go_meet
              case rel => exact ⟨_, (true), (by first | rfl | (simp; done) | (simp [*]; done)), H', ⟨by have := HJ1.out; first | omega | exact Nat.le_refl _⟩, ⟨by (with_reducible repeat (first | refine blk_drewN ?_ _ | refine blk_drew ?_ | refine blk_alloc ?_ _)); exact BK211.out⟩, ⟨by repeat (first | (with_reducible first | exact HB.out | apply below_alloc | apply pw_below_drewN | apply below_drew1 | refine below_set ?_ GE211.out) | exact HB.out)⟩⟩
            · rw [if_neg c24] at H
              have c24b0 : (a0_2 == 2) = false := beq_eq_false_iff_ne.mpr c24
              have c24b1 : (a0_2 != 2) = true := bne_iff_ne.mpr c24
              have H' := Aside0.mk H
              clear H
              have hcz26_0 : wc.cell? ⟨gb211, 0, none⟩ = some (.int .u32 a0_0) := (blk_cell BK211.out 0).trans rfl
              have hcz26_1 : wc.cell? ⟨gb211, 1, none⟩ = some (.string a0_1) := (blk_cell BK211.out 1).trans rfl
              have hcz26_2 : wc.cell? ⟨gb211, 2, none⟩ = some (.int .i64 a0_2) := (blk_cell BK211.out 2).trans rfl
              have hcz26_3 : wc.cell? ⟨gb211, 3, none⟩ = some (.string a0_3) := (blk_cell BK211.out 3).trans rfl
              have hcz26_4 : wc.cell? ⟨gb211, 4, none⟩ = some (.int .u64 a0_4) := (blk_cell BK211.out 4).trans rfl
              have hcz26_5 : wc.cell? ⟨gb211, 5, none⟩ = some (.string a0_5) := (blk_cell BK211.out 5).trans rfl
              have hcz26_6 : wc.cell? ⟨gb211, 6, none⟩ = some (.int .i64 a0_6) := (blk_cell BK211.out 6).trans rfl
              have hcz26_7 : wc.cell? ⟨gb211, 7, none⟩ = some (.int .i64 a0_7) := (blk_cell BK211.out 7).trans rfl
              have hfz26_0 := blk_frozen BK211.out 0
              have hfz26_1 := blk_frozen BK211.out 1
              have hfz26_2 := blk_frozen BK211.out 2
              have hfz26_3 := blk_frozen BK211.out 3
              have hfz26_4 := blk_frozen BK211.out 4
              have hfz26_5 := blk_frozen BK211.out 5
              have hfz26_6 := blk_frozen BK211.out 6
              have hfz26_7 := blk_frozen BK211.out 7
              go_wp2
              go_meet
              case rel => exact ⟨_, ((a0_2 == 3)), (by first | rfl | (simp; done) | (simp [*]; done)), H', ⟨by have := HJ1.out; first | omega | exact Nat.le_refl _⟩, ⟨by (with_reducible repeat (first | refine blk_drewN ?_ _ | refine blk_drew ?_ | refine blk_alloc ?_ _)); exact BK211.out⟩, ⟨by repeat (first | (with_reducible first | exact HB.out | apply below_alloc | apply pw_below_drewN | apply below_drew1 | refine below_set ?_ GE211.out) | exact HB.out)⟩⟩
        case rest =>
          clear HC21
          try clear c2
          try clear p2
          try clear c4
          try clear c5
          try clear c7
          try clear c8
          try clear c8b0
          try clear c8b1
          try clear c20
          try clear c22
          try clear c22b0
          try clear c22b1
          try clear c24
          try clear c24b0
          try clear c24b1
          try clear hcz11_0
          try clear hcz11_1
          try clear hcz11_2
          try clear hcz11_3
          try clear hcz11_4
          try clear hcz11_5
          try clear hcz11_6
          try clear hcz11_7
          try clear hcz12_0
          try clear hcz12_1
          try clear hcz12_2
          try clear hcz12_3
          try clear hcz12_4
          try clear hcz12_5
          try clear hcz12_6
          try clear hcz12_7
          try clear hcz14_0
          try clear hcz14_1
          try clear hcz14_2
          try clear hcz14_3
          try clear hcz14_4
          try clear hcz14_5
          try clear hcz14_6
          try clear hcz14_7
          try clear hcz15_0
          try clear hcz15_1
          try clear hcz15_2
          try clear hcz15_3
          try clear hcz15_4
          try clear hcz15_5
          try clear hcz15_6
          try clear hcz15_7
          try clear hcz17_0
          try clear hcz17_1
          try clear hcz17_2
          try clear hcz17_3
          try clear hcz17_4
          try clear hcz17_5
          try clear hcz17_6
          try clear hcz17_7
          try clear hcz18_0
          try clear hcz18_1
          try clear hcz18_2
          try clear hcz18_3
          try clear hcz18_4
          try clear hcz18_5
          try clear hcz18_6
          try clear hcz18_7
          try clear hcz23_0
          try clear hcz23_1
          try clear hcz23_2
          try clear hcz23_3
          try clear hcz23_4
          try clear hcz23_5
          try clear hcz23_6
          try clear hcz23_7
          try clear hcz25_0
          try clear hcz25_1
          try clear hcz25_2
          try clear hcz25_3
          try clear hcz25_4
          try clear hcz25_5
          try clear hcz25_6
          try clear hcz25_7
          try clear hcz26_0
          try clear hcz26_1
          try clear hcz26_2
          try clear hcz26_3
          try clear hcz26_4
          try clear hcz26_5
          try clear hcz26_6
          try clear hcz26_7
          try clear hcz9_0
          try clear hcz9_1
          try clear hcz9_2
          try clear hcz9_3
          try clear hcz9_4
          try clear hcz9_5
          try clear hcz9_6
          try clear hcz9_7
          try clear hfz11_0
          try clear hfz11_1
          try clear hfz11_2
          try clear hfz11_3
          try clear hfz11_4
          try clear hfz11_5
          try clear hfz11_6
          try clear hfz11_7
          try clear hfz12_0
          try clear hfz12_1
          try clear hfz12_2
          try clear hfz12_3
          try clear hfz12_4
          try clear hfz12_5
          try clear hfz12_6
          try clear hfz12_7
          try clear hfz14_0
          try clear hfz14_1
          try clear hfz14_2
          try clear hfz14_3
          try clear hfz14_4
          try clear hfz14_5
          try clear hfz14_6
          try clear hfz14_7
          try clear hfz15_0
          try clear hfz15_1
          try clear hfz15_2
          try clear hfz15_3
          try clear hfz15_4
          try clear hfz15_5
          try clear hfz15_6
          try clear hfz15_7
          try clear hfz17_0
          try clear hfz17_1
          try clear hfz17_2
          try clear hfz17_3
          try clear hfz17_4
          try clear hfz17_5
          try clear hfz17_6
          try clear hfz17_7
          try clear hfz18_0
          try clear hfz18_1
          try clear hfz18_2
          try clear hfz18_3
          try clear hfz18_4
          try clear hfz18_5
          try clear hfz18_6
          try clear hfz18_7
          try clear hfz23_0
          try clear hfz23_1
          try clear hfz23_2
          try clear hfz23_3
          try clear hfz23_4
          try clear hfz23_5
          try clear hfz23_6
          try clear hfz23_7
          try clear hfz25_0
          try clear hfz25_1
          try clear hfz25_2
          try clear hfz25_3
          try clear hfz25_4
          try clear hfz25_5
          try clear hfz25_6
          try clear hfz25_7
          try clear hfz26_0
          try clear hfz26_1
          try clear hfz26_2
          try clear hfz26_3
          try clear hfz26_4
          try clear hfz26_5
          try clear hfz26_6
          try clear hfz26_7
          try clear hfz9_0
          try clear hfz9_1
          try clear hfz9_2
          try clear hfz9_3
          try clear hfz9_4
          try clear hfz9_5
          try clear hfz9_6
          try clear hfz9_7
          try clear p2
          obtain ⟨kq, x36_20, rfl, HA, HJ20, BK211, HB⟩ := hcut
          cases kq with
          | zero => exact absurd HA.out (by simp [paydeskref10_RightEntry.j1])
          | succ kj20 =>
            have H := HA.out
            clear HA
            simp only [paydeskref10_RightEntry.j1] at H
            by_cases c27 : x36_20 = true
            · subst c27
              have H1 : (if a0_6 = 0 then (paydeskref10_RightEntry.j2 kj20 (a0_7 != 0) a0_0 a0_1 a0_2 a0_3 a0_4 a0_5 a0_6 a0_7) else (paydeskref10_RightEntry.j2 kj20 true a0_0 a0_1 a0_2 a0_3 a0_4 a0_5 a0_6 a0_7)) = some r := by rw [if_pos rfl] at H; exact H
              clear H
              have H := H1
              clear H1
              have HC28 := Aside0.mk H
              clear H
              go_upto_region 4 with (fail)
              go_cut [44] (fun v44 wc => ∃ (kq : Nat) (x44_27 : Bool), v44 = .bool x44_27 ∧ Aside0 (paydeskref10_RightEntry.j2 kq x44_27 a0_0 a0_1 a0_2 a0_3 a0_4 a0_5 a0_6 a0_7 = some r) ∧ Aside0 (kq ≤ kj20) ∧ Aside0 (wc.heap[gb211]? = some (.cells #[.int .u32 a0_0, .string a0_1, .int .i64 a0_2, .string a0_3, .int .u64 a0_4, .string a0_5, .int .i64 a0_6, .int .i64 a0_7] 28 (0, 0))) ∧ Aside0 (Below w.heap.size w wc))
              case first =>
                have H := HC28.out
                clear HC28
                by_cases c29 : a0_6 = 0
                · rw [if_pos c29] at H
                  have c29b0 : (a0_6 == 0) = true := beq_iff_eq.mpr c29
                  have c29b1 : (a0_6 != 0) = false := bne_eq_false_iff_eq.mpr c29
                  clear c29
                  (first | rw [c29b0] | (simp only [i64_w, i32_w]; rw [c29b0]) | skip)
                  have H' := Aside0.mk H
                  clear H
                  have hcz30_0 : wc.cell? ⟨gb211, 0, none⟩ = some (.int .u32 a0_0) := (blk_cell BK211.out 0).trans rfl
                  have hcz30_1 : wc.cell? ⟨gb211, 1, none⟩ = some (.string a0_1) := (blk_cell BK211.out 1).trans rfl
                  have hcz30_2 : wc.cell? ⟨gb211, 2, none⟩ = some (.int .i64 a0_2) := (blk_cell BK211.out 2).trans rfl
                  have hcz30_3 : wc.cell? ⟨gb211, 3, none⟩ = some (.string a0_3) := (blk_cell BK211.out 3).trans rfl
                  have hcz30_4 : wc.cell? ⟨gb211, 4, none⟩ = some (.int .u64 a0_4) := (blk_cell BK211.out 4).trans rfl
                  have hcz30_5 : wc.cell? ⟨gb211, 5, none⟩ = some (.string a0_5) := (blk_cell BK211.out 5).trans rfl
                  have hcz30_6 : wc.cell? ⟨gb211, 6, none⟩ = some (.int .i64 a0_6) := (blk_cell BK211.out 6).trans rfl
                  have hcz30_7 : wc.cell? ⟨gb211, 7, none⟩ = some (.int .i64 a0_7) := (blk_cell BK211.out 7).trans rfl
                  have hfz30_0 := blk_frozen BK211.out 0
                  have hfz30_1 := blk_frozen BK211.out 1
                  have hfz30_2 := blk_frozen BK211.out 2
                  have hfz30_3 := blk_frozen BK211.out 3
                  have hfz30_4 := blk_frozen BK211.out 4
                  have hfz30_5 := blk_frozen BK211.out 5
                  have hfz30_6 := blk_frozen BK211.out 6
                  have hfz30_7 := blk_frozen BK211.out 7
                  go_wp2
                  go_meet
                  case rel => exact ⟨_, ((a0_7 != 0)), (by first | rfl | (simp; done) | (simp [*]; done)), H', ⟨by have := HJ1.out; have := HJ20.out; first | omega | exact Nat.le_refl _⟩, ⟨by (with_reducible repeat (first | refine blk_drewN ?_ _ | refine blk_drew ?_ | refine blk_alloc ?_ _)); exact BK211.out⟩, ⟨by repeat (first | (with_reducible first | exact HB.out | apply below_alloc | apply pw_below_drewN | apply below_drew1 | refine below_set ?_ GE211.out) | exact HB.out)⟩⟩
                · rw [if_neg c29] at H
                  have c29b0 : (a0_6 == 0) = false := beq_eq_false_iff_ne.mpr c29
                  have c29b1 : (a0_6 != 0) = true := bne_iff_ne.mpr c29
                  (first | rw [c29b0] | (simp only [i64_w, i32_w]; rw [c29b0]) | skip)
                  have H' := Aside0.mk H
                  clear H
                  have hcz31_0 : wc.cell? ⟨gb211, 0, none⟩ = some (.int .u32 a0_0) := (blk_cell BK211.out 0).trans rfl
                  have hcz31_1 : wc.cell? ⟨gb211, 1, none⟩ = some (.string a0_1) := (blk_cell BK211.out 1).trans rfl
                  have hcz31_2 : wc.cell? ⟨gb211, 2, none⟩ = some (.int .i64 a0_2) := (blk_cell BK211.out 2).trans rfl
                  have hcz31_3 : wc.cell? ⟨gb211, 3, none⟩ = some (.string a0_3) := (blk_cell BK211.out 3).trans rfl
                  have hcz31_4 : wc.cell? ⟨gb211, 4, none⟩ = some (.int .u64 a0_4) := (blk_cell BK211.out 4).trans rfl
                  have hcz31_5 : wc.cell? ⟨gb211, 5, none⟩ = some (.string a0_5) := (blk_cell BK211.out 5).trans rfl
                  have hcz31_6 : wc.cell? ⟨gb211, 6, none⟩ = some (.int .i64 a0_6) := (blk_cell BK211.out 6).trans rfl
                  have hcz31_7 : wc.cell? ⟨gb211, 7, none⟩ = some (.int .i64 a0_7) := (blk_cell BK211.out 7).trans rfl
                  have hfz31_0 := blk_frozen BK211.out 0
                  have hfz31_1 := blk_frozen BK211.out 1
                  have hfz31_2 := blk_frozen BK211.out 2
                  have hfz31_3 := blk_frozen BK211.out 3
                  have hfz31_4 := blk_frozen BK211.out 4
                  have hfz31_5 := blk_frozen BK211.out 5
                  have hfz31_6 := blk_frozen BK211.out 6
                  have hfz31_7 := blk_frozen BK211.out 7
                  go_wp2
                  go_meet
                  case rel => exact ⟨_, (true), (by first | rfl | (simp; done) | (simp [*]; done)), H', ⟨by have := HJ1.out; have := HJ20.out; first | omega | exact Nat.le_refl _⟩, ⟨by (with_reducible repeat (first | refine blk_drewN ?_ _ | refine blk_drew ?_ | refine blk_alloc ?_ _)); exact BK211.out⟩, ⟨by repeat (first | (with_reducible first | exact HB.out | apply below_alloc | apply pw_below_drewN | apply below_drew1 | refine below_set ?_ GE211.out) | exact HB.out)⟩⟩
              case rest =>
                clear HC28
                try clear c2
                try clear p2
                try clear c4
                try clear c5
                try clear c7
                try clear c8
                try clear c8b0
                try clear c8b1
                try clear c20
                try clear c22
                try clear c22b0
                try clear c22b1
                try clear c24
                try clear c24b0
                try clear c24b1
                try clear c27
                try clear c29
                try clear c29b0
                try clear c29b1
                try clear hcz11_0
                try clear hcz11_1
                try clear hcz11_2
                try clear hcz11_3
                try clear hcz11_4
                try clear hcz11_5
                try clear hcz11_6
                try clear hcz11_7
                try clear hcz12_0
                try clear hcz12_1
                try clear hcz12_2
                try clear hcz12_3
                try clear hcz12_4
                try clear hcz12_5
                try clear hcz12_6
                try clear hcz12_7
                try clear hcz14_0
                try clear hcz14_1
                try clear hcz14_2
                try clear hcz14_3
                try clear hcz14_4
                try clear hcz14_5
                try clear hcz14_6
                try clear hcz14_7
                try clear hcz15_0
                try clear hcz15_1
                try clear hcz15_2
                try clear hcz15_3
                try clear hcz15_4
                try clear hcz15_5
                try clear hcz15_6
                try clear hcz15_7
                try clear hcz17_0
                try clear hcz17_1
                try clear hcz17_2
                try clear hcz17_3
                try clear hcz17_4
                try clear hcz17_5
                try clear hcz17_6
                try clear hcz17_7
                try clear hcz18_0
                try clear hcz18_1
                try clear hcz18_2
                try clear hcz18_3
                try clear hcz18_4
                try clear hcz18_5
                try clear hcz18_6
                try clear hcz18_7
                try clear hcz23_0
                try clear hcz23_1
                try clear hcz23_2
                try clear hcz23_3
                try clear hcz23_4
                try clear hcz23_5
                try clear hcz23_6
                try clear hcz23_7
                try clear hcz25_0
                try clear hcz25_1
                try clear hcz25_2
                try clear hcz25_3
                try clear hcz25_4
                try clear hcz25_5
                try clear hcz25_6
                try clear hcz25_7
                try clear hcz26_0
                try clear hcz26_1
                try clear hcz26_2
                try clear hcz26_3
                try clear hcz26_4
                try clear hcz26_5
                try clear hcz26_6
                try clear hcz26_7
                try clear hcz30_0
                try clear hcz30_1
                try clear hcz30_2
                try clear hcz30_3
                try clear hcz30_4
                try clear hcz30_5
                try clear hcz30_6
                try clear hcz30_7
                try clear hcz31_0
                try clear hcz31_1
                try clear hcz31_2
                try clear hcz31_3
                try clear hcz31_4
                try clear hcz31_5
                try clear hcz31_6
                try clear hcz31_7
                try clear hcz9_0
                try clear hcz9_1
                try clear hcz9_2
                try clear hcz9_3
                try clear hcz9_4
                try clear hcz9_5
                try clear hcz9_6
                try clear hcz9_7
                try clear hfz11_0
                try clear hfz11_1
                try clear hfz11_2
                try clear hfz11_3
                try clear hfz11_4
                try clear hfz11_5
                try clear hfz11_6
                try clear hfz11_7
                try clear hfz12_0
                try clear hfz12_1
                try clear hfz12_2
                try clear hfz12_3
                try clear hfz12_4
                try clear hfz12_5
                try clear hfz12_6
                try clear hfz12_7
                try clear hfz14_0
                try clear hfz14_1
                try clear hfz14_2
                try clear hfz14_3
                try clear hfz14_4
                try clear hfz14_5
                try clear hfz14_6
                try clear hfz14_7
                try clear hfz15_0
                try clear hfz15_1
                try clear hfz15_2
                try clear hfz15_3
                try clear hfz15_4
                try clear hfz15_5
                try clear hfz15_6
                try clear hfz15_7
                try clear hfz17_0
                try clear hfz17_1
                try clear hfz17_2
                try clear hfz17_3
                try clear hfz17_4
                try clear hfz17_5
                try clear hfz17_6
                try clear hfz17_7
                try clear hfz18_0
                try clear hfz18_1
                try clear hfz18_2
                try clear hfz18_3
                try clear hfz18_4
                try clear hfz18_5
                try clear hfz18_6
                try clear hfz18_7
                try clear hfz23_0
                try clear hfz23_1
                try clear hfz23_2
                try clear hfz23_3
                try clear hfz23_4
                try clear hfz23_5
                try clear hfz23_6
                try clear hfz23_7
                try clear hfz25_0
                try clear hfz25_1
                try clear hfz25_2
                try clear hfz25_3
                try clear hfz25_4
                try clear hfz25_5
                try clear hfz25_6
                try clear hfz25_7
                try clear hfz26_0
                try clear hfz26_1
                try clear hfz26_2
                try clear hfz26_3
                try clear hfz26_4
                try clear hfz26_5
                try clear hfz26_6
                try clear hfz26_7
                try clear hfz30_0
                try clear hfz30_1
                try clear hfz30_2
                try clear hfz30_3
                try clear hfz30_4
                try clear hfz30_5
                try clear hfz30_6
                try clear hfz30_7
                try clear hfz31_0
                try clear hfz31_1
                try clear hfz31_2
                try clear hfz31_3
                try clear hfz31_4
                try clear hfz31_5
                try clear hfz31_6
                try clear hfz31_7
                try clear hfz9_0
                try clear hfz9_1
                try clear hfz9_2
                try clear hfz9_3
                try clear hfz9_4
                try clear hfz9_5
                try clear hfz9_6
                try clear hfz9_7
                try clear p2
                obtain ⟨kq, x44_27, rfl, HA, HJ27, BK211, HB⟩ := hcut
                cases kq with
                | zero => exact absurd HA.out (by simp [paydeskref10_RightEntry.j2])
                | succ kj27 =>
                  have H := HA.out
                  clear HA
                  simp only [paydeskref10_RightEntry.j2] at H
                  by_cases c32 : x44_27 = true
                  · subst c32
                    have H1 : (some false) = some r := by rw [if_pos rfl] at H; exact H
                    clear H
                    have H := H1
                    clear H1
                    obtain rfl := Option.some.inj H
                    go_wp2
                    go_ret
                    exact ⟨by first | rfl | (simp [errW_none, errW_some] <;> rfl) | (simp [*, errW_none, errW_some] <;> rfl), by repeat (first | (with_reducible first | exact HB.out | apply below_alloc | apply pw_below_drewN | apply below_drew1 | refine below_set ?_ GE211.out) | exact HB.out)⟩
                  · replace c32 := Bool.eq_false_iff.mpr c32
                    subst c32
                    have H1 : (if a0_2 = 1 then (if a0_5.toList = ([] : List UInt8) then (some true) else (if a0_2 = 2 then (if a0_5.toList = ([48, 48] : List UInt8) then (some true) else (if a0_2 = 3 then ((paydeskref03_Right.f kj27 39 a0_5).bind fun t214 => (some t214)) else (some false))) else (if a0_2 = 3 then (if a0_5.toList = ([48, 48] : List UInt8) then (some false) else ((paydeskref03_Right.f kj27 39 a0_5).bind fun t215 => (some t215))) else (some false)))) else (if a0_2 = 2 then (if a0_5.toList = ([48, 48] : List UInt8) then (some true) else (if a0_2 = 3 then ((paydeskref03_Right.f kj27 39 a0_5).bind fun t216 => (some t216)) else (some false))) else (if a0_2 = 3 then (if a0_5.toList = ([48, 48] : List UInt8) then (some false) else ((paydeskref03_Right.f kj27 39 a0_5).bind fun t217 => (some t217))) else (some false)))) = some r := by rw [if_neg (show ¬ (false = true) by decide)] at H; exact H
                    clear H
                    have H := H1
                    clear H1
                    by_cases c33 : a0_2 = 1
                    · rw [if_pos c33] at H
                      have c33b0 : (a0_2 == 1) = true := beq_iff_eq.mpr c33
                      have c33b1 : (a0_2 != 1) = false := bne_eq_false_iff_eq.mpr c33
                      clear c33
                      by_cases c34 : a0_5.toList = ([] : List UInt8)
                      · rw [if_pos c34] at H
                        have c34b0 : (a0_5.toList == ([] : List UInt8)) = true := beq_iff_eq.mpr c34
                        have c34b1 : (a0_5.toList != ([] : List UInt8)) = false := bne_eq_false_iff_eq.mpr c34
                        clear c34
                        obtain rfl := Option.some.inj H
                        have hcz35_0 : wc.cell? ⟨gb211, 0, none⟩ = some (.int .u32 a0_0) := (blk_cell BK211.out 0).trans rfl
                        have hcz35_1 : wc.cell? ⟨gb211, 1, none⟩ = some (.string a0_1) := (blk_cell BK211.out 1).trans rfl
                        have hcz35_2 : wc.cell? ⟨gb211, 2, none⟩ = some (.int .i64 a0_2) := (blk_cell BK211.out 2).trans rfl
                        have hcz35_3 : wc.cell? ⟨gb211, 3, none⟩ = some (.string a0_3) := (blk_cell BK211.out 3).trans rfl
                        have hcz35_4 : wc.cell? ⟨gb211, 4, none⟩ = some (.int .u64 a0_4) := (blk_cell BK211.out 4).trans rfl
                        have hcz35_5 : wc.cell? ⟨gb211, 5, none⟩ = some (.string a0_5) := (blk_cell BK211.out 5).trans rfl
                        have hcz35_6 : wc.cell? ⟨gb211, 6, none⟩ = some (.int .i64 a0_6) := (blk_cell BK211.out 6).trans rfl
                        have hcz35_7 : wc.cell? ⟨gb211, 7, none⟩ = some (.int .i64 a0_7) := (blk_cell BK211.out 7).trans rfl
                        have hfz35_0 := blk_frozen BK211.out 0
                        have hfz35_1 := blk_frozen BK211.out 1
                        have hfz35_2 := blk_frozen BK211.out 2
                        have hfz35_3 := blk_frozen BK211.out 3
                        have hfz35_4 := blk_frozen BK211.out 4
                        have hfz35_5 := blk_frozen BK211.out 5
                        have hfz35_6 := blk_frozen BK211.out 6
                        have hfz35_7 := blk_frozen BK211.out 7
                        go_wp2
                        go_ret
                        exact ⟨by first | rfl | (simp [errW_none, errW_some] <;> rfl) | (simp [*, errW_none, errW_some] <;> rfl), by repeat (first | (with_reducible first | exact HB.out | apply below_alloc | apply pw_below_drewN | apply below_drew1 | refine below_set ?_ GE211.out) | exact HB.out)⟩
                      · rw [if_neg c34] at H
                        have c34b0 : (a0_5.toList == ([] : List UInt8)) = false := beq_eq_false_iff_ne.mpr c34
                        have c34b1 : (a0_5.toList != ([] : List UInt8)) = true := bne_iff_ne.mpr c34
                        by_cases c36 : a0_2 = 2
                        · rw [if_pos c36] at H
                          have c36b0 : (a0_2 == 2) = true := beq_iff_eq.mpr c36
                          have c36b1 : (a0_2 != 2) = false := bne_eq_false_iff_eq.mpr c36
                          clear c36
                          by_cases c37 : a0_5.toList = ([48, 48] : List UInt8)
                          · rw [if_pos c37] at H
                            have c37b0 : (a0_5.toList == ([48, 48] : List UInt8)) = true := beq_iff_eq.mpr c37
                            have c37b1 : (a0_5.toList != ([48, 48] : List UInt8)) = false := bne_eq_false_iff_eq.mpr c37
                            clear c37
                            obtain rfl := Option.some.inj H
                            have hcz38_0 : wc.cell? ⟨gb211, 0, none⟩ = some (.int .u32 a0_0) := (blk_cell BK211.out 0).trans rfl
                            have hcz38_1 : wc.cell? ⟨gb211, 1, none⟩ = some (.string a0_1) := (blk_cell BK211.out 1).trans rfl
                            have hcz38_2 : wc.cell? ⟨gb211, 2, none⟩ = some (.int .i64 a0_2) := (blk_cell BK211.out 2).trans rfl
                            have hcz38_3 : wc.cell? ⟨gb211, 3, none⟩ = some (.string a0_3) := (blk_cell BK211.out 3).trans rfl
                            have hcz38_4 : wc.cell? ⟨gb211, 4, none⟩ = some (.int .u64 a0_4) := (blk_cell BK211.out 4).trans rfl
                            have hcz38_5 : wc.cell? ⟨gb211, 5, none⟩ = some (.string a0_5) := (blk_cell BK211.out 5).trans rfl
                            have hcz38_6 : wc.cell? ⟨gb211, 6, none⟩ = some (.int .i64 a0_6) := (blk_cell BK211.out 6).trans rfl
                            have hcz38_7 : wc.cell? ⟨gb211, 7, none⟩ = some (.int .i64 a0_7) := (blk_cell BK211.out 7).trans rfl
                            have hfz38_0 := blk_frozen BK211.out 0
                            have hfz38_1 := blk_frozen BK211.out 1
                            have hfz38_2 := blk_frozen BK211.out 2
                            have hfz38_3 := blk_frozen BK211.out 3
                            have hfz38_4 := blk_frozen BK211.out 4
                            have hfz38_5 := blk_frozen BK211.out 5
                            have hfz38_6 := blk_frozen BK211.out 6
                            have hfz38_7 := blk_frozen BK211.out 7
                            go_wp2
                            go_ret
                            exact ⟨by first | rfl | (simp [errW_none, errW_some] <;> rfl) | (simp [*, errW_none, errW_some] <;> rfl), by repeat (first | (with_reducible first | exact HB.out | apply below_alloc | apply pw_below_drewN | apply below_drew1 | refine below_set ?_ GE211.out) | exact HB.out)⟩
                          · rw [if_neg c37] at H
                            have c37b0 : (a0_5.toList == ([48, 48] : List UInt8)) = false := beq_eq_false_iff_ne.mpr c37
                            have c37b1 : (a0_5.toList != ([48, 48] : List UInt8)) = true := bne_iff_ne.mpr c37
                            by_cases c39 : a0_2 = 3
                            · rw [if_pos c39] at H
                              have c39b0 : (a0_2 == 3) = true := beq_iff_eq.mpr c39
                              have c39b1 : (a0_2 != 3) = false := bne_eq_false_iff_eq.mpr c39
                              clear c39
                              replace H := Option.bind_eq_some_iff.mp H
                              obtain ⟨t214, A400, H⟩ := H
                              replace H : (some t214) = some r := H
                              have A40 := Aside0.mk A400
                              clear A400
                              obtain rfl := Option.some.inj H
                              have hcz41_0 : wc.cell? ⟨gb211, 0, none⟩ = some (.int .u32 a0_0) := (blk_cell BK211.out 0).trans rfl
                              have hcz41_1 : wc.cell? ⟨gb211, 1, none⟩ = some (.string a0_1) := (blk_cell BK211.out 1).trans rfl
                              have hcz41_2 : wc.cell? ⟨gb211, 2, none⟩ = some (.int .i64 a0_2) := (blk_cell BK211.out 2).trans rfl
                              have hcz41_3 : wc.cell? ⟨gb211, 3, none⟩ = some (.string a0_3) := (blk_cell BK211.out 3).trans rfl
                              have hcz41_4 : wc.cell? ⟨gb211, 4, none⟩ = some (.int .u64 a0_4) := (blk_cell BK211.out 4).trans rfl
                              have hcz41_5 : wc.cell? ⟨gb211, 5, none⟩ = some (.string a0_5) := (blk_cell BK211.out 5).trans rfl
                              have hcz41_6 : wc.cell? ⟨gb211, 6, none⟩ = some (.int .i64 a0_6) := (blk_cell BK211.out 6).trans rfl
                              have hcz41_7 : wc.cell? ⟨gb211, 7, none⟩ = some (.int .i64 a0_7) := (blk_cell BK211.out 7).trans rfl
                              have hfz41_0 := blk_frozen BK211.out 0
                              have hfz41_1 := blk_frozen BK211.out 1
                              have hfz41_2 := blk_frozen BK211.out 2
                              have hfz41_3 := blk_frozen BK211.out 3
                              have hfz41_4 := blk_frozen BK211.out 4
                              have hfz41_5 := blk_frozen BK211.out 5
                              have hfz41_6 := blk_frozen BK211.out 6
                              have hfz41_7 := blk_frozen BK211.out 7
                              go_wp2_with (first | (go_at_call 50; (with_reducible refine (paydeskref03_Right.calls kj27 39 a0_5 t214 _ A40.out).mono ?_); rintro e w42 ⟨rfl, hb⟩; have n0_ := Aside0.mk (blk_below (g := gb211) (o := .cells #[.int .u32 a0_0, .string a0_1, .int .i64 a0_2, .string a0_3, .int .u64 a0_4, .string a0_5, .int .i64 a0_6, .int .i64 a0_7] 28 (0, 0)) (by (with_reducible repeat (first | refine blk_drewN ?_ _ | refine blk_drew ?_ | refine blk_alloc ?_ _)); exact BK211.out) hb); have n1_ := Aside0.mk (below_step (by repeat (first | (with_reducible first | exact HB.out | apply below_alloc | apply pw_below_drewN | apply below_drew1 | refine below_set ?_ GE211.out) | exact HB.out)) hb); clear BK211; clear HB; have BK211 := n0_; have HB := n1_; clear n0_ n1_; (try clear hb); (try clear hb2); (try clear hk); (try clear hi)))
                              go_ret
                              exact ⟨by first | rfl | (simp [errW_none, errW_some] <;> rfl) | (simp [*, errW_none, errW_some] <;> rfl), by repeat (first | (with_reducible first | exact HB.out | apply below_alloc | apply pw_below_drewN | apply below_drew1 | refine below_set ?_ GE211.out) | exact HB.out)⟩
                            · rw [if_neg c39] at H
                              have c39b0 : (a0_2 == 3) = false := beq_eq_false_iff_ne.mpr c39
                              have c39b1 : (a0_2 != 3) = true := bne_iff_ne.mpr c39
                              obtain rfl := Option.some.inj H
                              have hcz43_0 : wc.cell? ⟨gb211, 0, none⟩ = some (.int .u32 a0_0) := (blk_cell BK211.out 0).trans rfl
                              have hcz43_1 : wc.cell? ⟨gb211, 1, none⟩ = some (.string a0_1) := (blk_cell BK211.out 1).trans rfl
                              have hcz43_2 : wc.cell? ⟨gb211, 2, none⟩ = some (.int .i64 a0_2) := (blk_cell BK211.out 2).trans rfl
                              have hcz43_3 : wc.cell? ⟨gb211, 3, none⟩ = some (.string a0_3) := (blk_cell BK211.out 3).trans rfl
                              have hcz43_4 : wc.cell? ⟨gb211, 4, none⟩ = some (.int .u64 a0_4) := (blk_cell BK211.out 4).trans rfl
                              have hcz43_5 : wc.cell? ⟨gb211, 5, none⟩ = some (.string a0_5) := (blk_cell BK211.out 5).trans rfl
                              have hcz43_6 : wc.cell? ⟨gb211, 6, none⟩ = some (.int .i64 a0_6) := (blk_cell BK211.out 6).trans rfl
                              have hcz43_7 : wc.cell? ⟨gb211, 7, none⟩ = some (.int .i64 a0_7) := (blk_cell BK211.out 7).trans rfl
                              have hfz43_0 := blk_frozen BK211.out 0
                              have hfz43_1 := blk_frozen BK211.out 1
                              have hfz43_2 := blk_frozen BK211.out 2
                              have hfz43_3 := blk_frozen BK211.out 3
                              have hfz43_4 := blk_frozen BK211.out 4
                              have hfz43_5 := blk_frozen BK211.out 5
                              have hfz43_6 := blk_frozen BK211.out 6
                              have hfz43_7 := blk_frozen BK211.out 7
                              go_wp2
                              go_ret
                              exact ⟨by first | rfl | (simp [errW_none, errW_some] <;> rfl) | (simp [*, errW_none, errW_some] <;> rfl), by repeat (first | (with_reducible first | exact HB.out | apply below_alloc | apply pw_below_drewN | apply below_drew1 | refine below_set ?_ GE211.out) | exact HB.out)⟩
                        · rw [if_neg c36] at H
                          have c36b0 : (a0_2 == 2) = false := beq_eq_false_iff_ne.mpr c36
                          have c36b1 : (a0_2 != 2) = true := bne_iff_ne.mpr c36
                          by_cases c44 : a0_2 = 3
                          · rw [if_pos c44] at H
                            have c44b0 : (a0_2 == 3) = true := beq_iff_eq.mpr c44
                            have c44b1 : (a0_2 != 3) = false := bne_eq_false_iff_eq.mpr c44
                            clear c44
                            by_cases c45 : a0_5.toList = ([48, 48] : List UInt8)
                            · rw [if_pos c45] at H
                              have c45b0 : (a0_5.toList == ([48, 48] : List UInt8)) = true := beq_iff_eq.mpr c45
                              have c45b1 : (a0_5.toList != ([48, 48] : List UInt8)) = false := bne_eq_false_iff_eq.mpr c45
                              clear c45
                              obtain rfl := Option.some.inj H
                              have hcz46_0 : wc.cell? ⟨gb211, 0, none⟩ = some (.int .u32 a0_0) := (blk_cell BK211.out 0).trans rfl
                              have hcz46_1 : wc.cell? ⟨gb211, 1, none⟩ = some (.string a0_1) := (blk_cell BK211.out 1).trans rfl
                              have hcz46_2 : wc.cell? ⟨gb211, 2, none⟩ = some (.int .i64 a0_2) := (blk_cell BK211.out 2).trans rfl
                              have hcz46_3 : wc.cell? ⟨gb211, 3, none⟩ = some (.string a0_3) := (blk_cell BK211.out 3).trans rfl
                              have hcz46_4 : wc.cell? ⟨gb211, 4, none⟩ = some (.int .u64 a0_4) := (blk_cell BK211.out 4).trans rfl
                              have hcz46_5 : wc.cell? ⟨gb211, 5, none⟩ = some (.string a0_5) := (blk_cell BK211.out 5).trans rfl
                              have hcz46_6 : wc.cell? ⟨gb211, 6, none⟩ = some (.int .i64 a0_6) := (blk_cell BK211.out 6).trans rfl
                              have hcz46_7 : wc.cell? ⟨gb211, 7, none⟩ = some (.int .i64 a0_7) := (blk_cell BK211.out 7).trans rfl
                              have hfz46_0 := blk_frozen BK211.out 0
                              have hfz46_1 := blk_frozen BK211.out 1
                              have hfz46_2 := blk_frozen BK211.out 2
                              have hfz46_3 := blk_frozen BK211.out 3
                              have hfz46_4 := blk_frozen BK211.out 4
                              have hfz46_5 := blk_frozen BK211.out 5
                              have hfz46_6 := blk_frozen BK211.out 6
                              have hfz46_7 := blk_frozen BK211.out 7
                              go_wp2
                              go_ret
                              exact ⟨by first | rfl | (simp [errW_none, errW_some] <;> rfl) | (simp [*, errW_none, errW_some] <;> rfl), by repeat (first | (with_reducible first | exact HB.out | apply below_alloc | apply pw_below_drewN | apply below_drew1 | refine below_set ?_ GE211.out) | exact HB.out)⟩
                            · rw [if_neg c45] at H
                              have c45b0 : (a0_5.toList == ([48, 48] : List UInt8)) = false := beq_eq_false_iff_ne.mpr c45
                              have c45b1 : (a0_5.toList != ([48, 48] : List UInt8)) = true := bne_iff_ne.mpr c45
                              replace H := Option.bind_eq_some_iff.mp H
                              obtain ⟨t215, A470, H⟩ := H
                              replace H : (some t215) = some r := H
                              have A47 := Aside0.mk A470
                              clear A470
                              obtain rfl := Option.some.inj H
                              have hcz48_0 : wc.cell? ⟨gb211, 0, none⟩ = some (.int .u32 a0_0) := (blk_cell BK211.out 0).trans rfl
                              have hcz48_1 : wc.cell? ⟨gb211, 1, none⟩ = some (.string a0_1) := (blk_cell BK211.out 1).trans rfl
                              have hcz48_2 : wc.cell? ⟨gb211, 2, none⟩ = some (.int .i64 a0_2) := (blk_cell BK211.out 2).trans rfl
                              have hcz48_3 : wc.cell? ⟨gb211, 3, none⟩ = some (.string a0_3) := (blk_cell BK211.out 3).trans rfl
                              have hcz48_4 : wc.cell? ⟨gb211, 4, none⟩ = some (.int .u64 a0_4) := (blk_cell BK211.out 4).trans rfl
                              have hcz48_5 : wc.cell? ⟨gb211, 5, none⟩ = some (.string a0_5) := (blk_cell BK211.out 5).trans rfl
                              have hcz48_6 : wc.cell? ⟨gb211, 6, none⟩ = some (.int .i64 a0_6) := (blk_cell BK211.out 6).trans rfl
                              have hcz48_7 : wc.cell? ⟨gb211, 7, none⟩ = some (.int .i64 a0_7) := (blk_cell BK211.out 7).trans rfl
                              have hfz48_0 := blk_frozen BK211.out 0
                              have hfz48_1 := blk_frozen BK211.out 1
                              have hfz48_2 := blk_frozen BK211.out 2
                              have hfz48_3 := blk_frozen BK211.out 3
                              have hfz48_4 := blk_frozen BK211.out 4
                              have hfz48_5 := blk_frozen BK211.out 5
                              have hfz48_6 := blk_frozen BK211.out 6
                              have hfz48_7 := blk_frozen BK211.out 7
                              go_wp2_with (first | (go_at_call 50; (with_reducible refine (paydeskref03_Right.calls kj27 39 a0_5 t215 _ A47.out).mono ?_); rintro e w49 ⟨rfl, hb⟩; have n0_ := Aside0.mk (blk_below (g := gb211) (o := .cells #[.int .u32 a0_0, .string a0_1, .int .i64 a0_2, .string a0_3, .int .u64 a0_4, .string a0_5, .int .i64 a0_6, .int .i64 a0_7] 28 (0, 0)) (by (with_reducible repeat (first | refine blk_drewN ?_ _ | refine blk_drew ?_ | refine blk_alloc ?_ _)); exact BK211.out) hb); have n1_ := Aside0.mk (below_step (by repeat (first | (with_reducible first | exact HB.out | apply below_alloc | apply pw_below_drewN | apply below_drew1 | refine below_set ?_ GE211.out) | exact HB.out)) hb); clear BK211; clear HB; have BK211 := n0_; have HB := n1_; clear n0_ n1_; (try clear hb); (try clear hb2); (try clear hk); (try clear hi)))
                              go_ret
                              exact ⟨by first | rfl | (simp [errW_none, errW_some] <;> rfl) | (simp [*, errW_none, errW_some] <;> rfl), by repeat (first | (with_reducible first | exact HB.out | apply below_alloc | apply pw_below_drewN | apply below_drew1 | refine below_set ?_ GE211.out) | exact HB.out)⟩
                          · rw [if_neg c44] at H
                            have c44b0 : (a0_2 == 3) = false := beq_eq_false_iff_ne.mpr c44
                            have c44b1 : (a0_2 != 3) = true := bne_iff_ne.mpr c44
                            obtain rfl := Option.some.inj H
                            have hcz50_0 : wc.cell? ⟨gb211, 0, none⟩ = some (.int .u32 a0_0) := (blk_cell BK211.out 0).trans rfl
                            have hcz50_1 : wc.cell? ⟨gb211, 1, none⟩ = some (.string a0_1) := (blk_cell BK211.out 1).trans rfl
                            have hcz50_2 : wc.cell? ⟨gb211, 2, none⟩ = some (.int .i64 a0_2) := (blk_cell BK211.out 2).trans rfl
                            have hcz50_3 : wc.cell? ⟨gb211, 3, none⟩ = some (.string a0_3) := (blk_cell BK211.out 3).trans rfl
                            have hcz50_4 : wc.cell? ⟨gb211, 4, none⟩ = some (.int .u64 a0_4) := (blk_cell BK211.out 4).trans rfl
                            have hcz50_5 : wc.cell? ⟨gb211, 5, none⟩ = some (.string a0_5) := (blk_cell BK211.out 5).trans rfl
                            have hcz50_6 : wc.cell? ⟨gb211, 6, none⟩ = some (.int .i64 a0_6) := (blk_cell BK211.out 6).trans rfl
                            have hcz50_7 : wc.cell? ⟨gb211, 7, none⟩ = some (.int .i64 a0_7) := (blk_cell BK211.out 7).trans rfl
                            have hfz50_0 := blk_frozen BK211.out 0
                            have hfz50_1 := blk_frozen BK211.out 1
                            have hfz50_2 := blk_frozen BK211.out 2
                            have hfz50_3 := blk_frozen BK211.out 3
                            have hfz50_4 := blk_frozen BK211.out 4
                            have hfz50_5 := blk_frozen BK211.out 5
                            have hfz50_6 := blk_frozen BK211.out 6
                            have hfz50_7 := blk_frozen BK211.out 7
                            go_wp2
                            go_ret
                            exact ⟨by first | rfl | (simp [errW_none, errW_some] <;> rfl) | (simp [*, errW_none, errW_some] <;> rfl), by repeat (first | (with_reducible first | exact HB.out | apply below_alloc | apply pw_below_drewN | apply below_drew1 | refine below_set ?_ GE211.out) | exact HB.out)⟩
                    · rw [if_neg c33] at H
                      have c33b0 : (a0_2 == 1) = false := beq_eq_false_iff_ne.mpr c33
                      have c33b1 : (a0_2 != 1) = true := bne_iff_ne.mpr c33
                      by_cases c51 : a0_2 = 2
                      · rw [if_pos c51] at H
                        have c51b0 : (a0_2 == 2) = true := beq_iff_eq.mpr c51
                        have c51b1 : (a0_2 != 2) = false := bne_eq_false_iff_eq.mpr c51
                        clear c51
                        by_cases c52 : a0_5.toList = ([48, 48] : List UInt8)
                        · rw [if_pos c52] at H
                          have c52b0 : (a0_5.toList == ([48, 48] : List UInt8)) = true := beq_iff_eq.mpr c52
                          have c52b1 : (a0_5.toList != ([48, 48] : List UInt8)) = false := bne_eq_false_iff_eq.mpr c52
                          clear c52
                          obtain rfl := Option.some.inj H
                          have hcz53_0 : wc.cell? ⟨gb211, 0, none⟩ = some (.int .u32 a0_0) := (blk_cell BK211.out 0).trans rfl
                          have hcz53_1 : wc.cell? ⟨gb211, 1, none⟩ = some (.string a0_1) := (blk_cell BK211.out 1).trans rfl
                          have hcz53_2 : wc.cell? ⟨gb211, 2, none⟩ = some (.int .i64 a0_2) := (blk_cell BK211.out 2).trans rfl
                          have hcz53_3 : wc.cell? ⟨gb211, 3, none⟩ = some (.string a0_3) := (blk_cell BK211.out 3).trans rfl
                          have hcz53_4 : wc.cell? ⟨gb211, 4, none⟩ = some (.int .u64 a0_4) := (blk_cell BK211.out 4).trans rfl
                          have hcz53_5 : wc.cell? ⟨gb211, 5, none⟩ = some (.string a0_5) := (blk_cell BK211.out 5).trans rfl
                          have hcz53_6 : wc.cell? ⟨gb211, 6, none⟩ = some (.int .i64 a0_6) := (blk_cell BK211.out 6).trans rfl
                          have hcz53_7 : wc.cell? ⟨gb211, 7, none⟩ = some (.int .i64 a0_7) := (blk_cell BK211.out 7).trans rfl
                          have hfz53_0 := blk_frozen BK211.out 0
                          have hfz53_1 := blk_frozen BK211.out 1
                          have hfz53_2 := blk_frozen BK211.out 2
                          have hfz53_3 := blk_frozen BK211.out 3
                          have hfz53_4 := blk_frozen BK211.out 4
                          have hfz53_5 := blk_frozen BK211.out 5
                          have hfz53_6 := blk_frozen BK211.out 6
                          have hfz53_7 := blk_frozen BK211.out 7
                          go_wp2
                          go_ret
                          exact ⟨by first | rfl | (simp [errW_none, errW_some] <;> rfl) | (simp [*, errW_none, errW_some] <;> rfl), by repeat (first | (with_reducible first | exact HB.out | apply below_alloc | apply pw_below_drewN | apply below_drew1 | refine below_set ?_ GE211.out) | exact HB.out)⟩
                        · rw [if_neg c52] at H
                          have c52b0 : (a0_5.toList == ([48, 48] : List UInt8)) = false := beq_eq_false_iff_ne.mpr c52
                          have c52b1 : (a0_5.toList != ([48, 48] : List UInt8)) = true := bne_iff_ne.mpr c52
                          by_cases c54 : a0_2 = 3
                          · rw [if_pos c54] at H
                            have c54b0 : (a0_2 == 3) = true := beq_iff_eq.mpr c54
                            have c54b1 : (a0_2 != 3) = false := bne_eq_false_iff_eq.mpr c54
                            clear c54
                            replace H := Option.bind_eq_some_iff.mp H
                            obtain ⟨t216, A550, H⟩ := H
                            replace H : (some t216) = some r := H
                            have A55 := Aside0.mk A550
                            clear A550
                            obtain rfl := Option.some.inj H
                            have hcz56_0 : wc.cell? ⟨gb211, 0, none⟩ = some (.int .u32 a0_0) := (blk_cell BK211.out 0).trans rfl
                            have hcz56_1 : wc.cell? ⟨gb211, 1, none⟩ = some (.string a0_1) := (blk_cell BK211.out 1).trans rfl
                            have hcz56_2 : wc.cell? ⟨gb211, 2, none⟩ = some (.int .i64 a0_2) := (blk_cell BK211.out 2).trans rfl
                            have hcz56_3 : wc.cell? ⟨gb211, 3, none⟩ = some (.string a0_3) := (blk_cell BK211.out 3).trans rfl
                            have hcz56_4 : wc.cell? ⟨gb211, 4, none⟩ = some (.int .u64 a0_4) := (blk_cell BK211.out 4).trans rfl
                            have hcz56_5 : wc.cell? ⟨gb211, 5, none⟩ = some (.string a0_5) := (blk_cell BK211.out 5).trans rfl
                            have hcz56_6 : wc.cell? ⟨gb211, 6, none⟩ = some (.int .i64 a0_6) := (blk_cell BK211.out 6).trans rfl
                            have hcz56_7 : wc.cell? ⟨gb211, 7, none⟩ = some (.int .i64 a0_7) := (blk_cell BK211.out 7).trans rfl
                            have hfz56_0 := blk_frozen BK211.out 0
                            have hfz56_1 := blk_frozen BK211.out 1
                            have hfz56_2 := blk_frozen BK211.out 2
                            have hfz56_3 := blk_frozen BK211.out 3
                            have hfz56_4 := blk_frozen BK211.out 4
                            have hfz56_5 := blk_frozen BK211.out 5
                            have hfz56_6 := blk_frozen BK211.out 6
                            have hfz56_7 := blk_frozen BK211.out 7
                            go_wp2_with (first | (go_at_call 50; (with_reducible refine (paydeskref03_Right.calls kj27 39 a0_5 t216 _ A55.out).mono ?_); rintro e w57 ⟨rfl, hb⟩; have n0_ := Aside0.mk (blk_below (g := gb211) (o := .cells #[.int .u32 a0_0, .string a0_1, .int .i64 a0_2, .string a0_3, .int .u64 a0_4, .string a0_5, .int .i64 a0_6, .int .i64 a0_7] 28 (0, 0)) (by (with_reducible repeat (first | refine blk_drewN ?_ _ | refine blk_drew ?_ | refine blk_alloc ?_ _)); exact BK211.out) hb); have n1_ := Aside0.mk (below_step (by repeat (first | (with_reducible first | exact HB.out | apply below_alloc | apply pw_below_drewN | apply below_drew1 | refine below_set ?_ GE211.out) | exact HB.out)) hb); clear BK211; clear HB; have BK211 := n0_; have HB := n1_; clear n0_ n1_; (try clear hb); (try clear hb2); (try clear hk); (try clear hi)))
                            go_ret
                            exact ⟨by first | rfl | (simp [errW_none, errW_some] <;> rfl) | (simp [*, errW_none, errW_some] <;> rfl), by repeat (first | (with_reducible first | exact HB.out | apply below_alloc | apply pw_below_drewN | apply below_drew1 | refine below_set ?_ GE211.out) | exact HB.out)⟩
                          · rw [if_neg c54] at H
                            have c54b0 : (a0_2 == 3) = false := beq_eq_false_iff_ne.mpr c54
                            have c54b1 : (a0_2 != 3) = true := bne_iff_ne.mpr c54
                            obtain rfl := Option.some.inj H
                            have hcz58_0 : wc.cell? ⟨gb211, 0, none⟩ = some (.int .u32 a0_0) := (blk_cell BK211.out 0).trans rfl
                            have hcz58_1 : wc.cell? ⟨gb211, 1, none⟩ = some (.string a0_1) := (blk_cell BK211.out 1).trans rfl
                            have hcz58_2 : wc.cell? ⟨gb211, 2, none⟩ = some (.int .i64 a0_2) := (blk_cell BK211.out 2).trans rfl
                            have hcz58_3 : wc.cell? ⟨gb211, 3, none⟩ = some (.string a0_3) := (blk_cell BK211.out 3).trans rfl
                            have hcz58_4 : wc.cell? ⟨gb211, 4, none⟩ = some (.int .u64 a0_4) := (blk_cell BK211.out 4).trans rfl
                            have hcz58_5 : wc.cell? ⟨gb211, 5, none⟩ = some (.string a0_5) := (blk_cell BK211.out 5).trans rfl
                            have hcz58_6 : wc.cell? ⟨gb211, 6, none⟩ = some (.int .i64 a0_6) := (blk_cell BK211.out 6).trans rfl
                            have hcz58_7 : wc.cell? ⟨gb211, 7, none⟩ = some (.int .i64 a0_7) := (blk_cell BK211.out 7).trans rfl
                            have hfz58_0 := blk_frozen BK211.out 0
                            have hfz58_1 := blk_frozen BK211.out 1
                            have hfz58_2 := blk_frozen BK211.out 2
                            have hfz58_3 := blk_frozen BK211.out 3
                            have hfz58_4 := blk_frozen BK211.out 4
                            have hfz58_5 := blk_frozen BK211.out 5
                            have hfz58_6 := blk_frozen BK211.out 6
                            have hfz58_7 := blk_frozen BK211.out 7
                            go_wp2
                            go_ret
                            exact ⟨by first | rfl | (simp [errW_none, errW_some] <;> rfl) | (simp [*, errW_none, errW_some] <;> rfl), by repeat (first | (with_reducible first | exact HB.out | apply below_alloc | apply pw_below_drewN | apply below_drew1 | refine below_set ?_ GE211.out) | exact HB.out)⟩
                      · rw [if_neg c51] at H
                        have c51b0 : (a0_2 == 2) = false := beq_eq_false_iff_ne.mpr c51
                        have c51b1 : (a0_2 != 2) = true := bne_iff_ne.mpr c51
                        by_cases c59 : a0_2 = 3
                        · rw [if_pos c59] at H
                          have c59b0 : (a0_2 == 3) = true := beq_iff_eq.mpr c59
                          have c59b1 : (a0_2 != 3) = false := bne_eq_false_iff_eq.mpr c59
                          clear c59
                          by_cases c60 : a0_5.toList = ([48, 48] : List UInt8)
                          · rw [if_pos c60] at H
                            have c60b0 : (a0_5.toList == ([48, 48] : List UInt8)) = true := beq_iff_eq.mpr c60
                            have c60b1 : (a0_5.toList != ([48, 48] : List UInt8)) = false := bne_eq_false_iff_eq.mpr c60
                            clear c60
                            obtain rfl := Option.some.inj H
                            have hcz61_0 : wc.cell? ⟨gb211, 0, none⟩ = some (.int .u32 a0_0) := (blk_cell BK211.out 0).trans rfl
                            have hcz61_1 : wc.cell? ⟨gb211, 1, none⟩ = some (.string a0_1) := (blk_cell BK211.out 1).trans rfl
                            have hcz61_2 : wc.cell? ⟨gb211, 2, none⟩ = some (.int .i64 a0_2) := (blk_cell BK211.out 2).trans rfl
                            have hcz61_3 : wc.cell? ⟨gb211, 3, none⟩ = some (.string a0_3) := (blk_cell BK211.out 3).trans rfl
                            have hcz61_4 : wc.cell? ⟨gb211, 4, none⟩ = some (.int .u64 a0_4) := (blk_cell BK211.out 4).trans rfl
                            have hcz61_5 : wc.cell? ⟨gb211, 5, none⟩ = some (.string a0_5) := (blk_cell BK211.out 5).trans rfl
                            have hcz61_6 : wc.cell? ⟨gb211, 6, none⟩ = some (.int .i64 a0_6) := (blk_cell BK211.out 6).trans rfl
                            have hcz61_7 : wc.cell? ⟨gb211, 7, none⟩ = some (.int .i64 a0_7) := (blk_cell BK211.out 7).trans rfl
                            have hfz61_0 := blk_frozen BK211.out 0
                            have hfz61_1 := blk_frozen BK211.out 1
                            have hfz61_2 := blk_frozen BK211.out 2
                            have hfz61_3 := blk_frozen BK211.out 3
                            have hfz61_4 := blk_frozen BK211.out 4
                            have hfz61_5 := blk_frozen BK211.out 5
                            have hfz61_6 := blk_frozen BK211.out 6
                            have hfz61_7 := blk_frozen BK211.out 7
                            go_wp2
                            go_ret
                            exact ⟨by first | rfl | (simp [errW_none, errW_some] <;> rfl) | (simp [*, errW_none, errW_some] <;> rfl), by repeat (first | (with_reducible first | exact HB.out | apply below_alloc | apply pw_below_drewN | apply below_drew1 | refine below_set ?_ GE211.out) | exact HB.out)⟩
                          · rw [if_neg c60] at H
                            have c60b0 : (a0_5.toList == ([48, 48] : List UInt8)) = false := beq_eq_false_iff_ne.mpr c60
                            have c60b1 : (a0_5.toList != ([48, 48] : List UInt8)) = true := bne_iff_ne.mpr c60
                            replace H := Option.bind_eq_some_iff.mp H
                            obtain ⟨t217, A620, H⟩ := H
                            replace H : (some t217) = some r := H
                            have A62 := Aside0.mk A620
                            clear A620
                            obtain rfl := Option.some.inj H
                            have hcz63_0 : wc.cell? ⟨gb211, 0, none⟩ = some (.int .u32 a0_0) := (blk_cell BK211.out 0).trans rfl
                            have hcz63_1 : wc.cell? ⟨gb211, 1, none⟩ = some (.string a0_1) := (blk_cell BK211.out 1).trans rfl
                            have hcz63_2 : wc.cell? ⟨gb211, 2, none⟩ = some (.int .i64 a0_2) := (blk_cell BK211.out 2).trans rfl
                            have hcz63_3 : wc.cell? ⟨gb211, 3, none⟩ = some (.string a0_3) := (blk_cell BK211.out 3).trans rfl
                            have hcz63_4 : wc.cell? ⟨gb211, 4, none⟩ = some (.int .u64 a0_4) := (blk_cell BK211.out 4).trans rfl
                            have hcz63_5 : wc.cell? ⟨gb211, 5, none⟩ = some (.string a0_5) := (blk_cell BK211.out 5).trans rfl
                            have hcz63_6 : wc.cell? ⟨gb211, 6, none⟩ = some (.int .i64 a0_6) := (blk_cell BK211.out 6).trans rfl
                            have hcz63_7 : wc.cell? ⟨gb211, 7, none⟩ = some (.int .i64 a0_7) := (blk_cell BK211.out 7).trans rfl
                            have hfz63_0 := blk_frozen BK211.out 0
                            have hfz63_1 := blk_frozen BK211.out 1
                            have hfz63_2 := blk_frozen BK211.out 2
                            have hfz63_3 := blk_frozen BK211.out 3
                            have hfz63_4 := blk_frozen BK211.out 4
                            have hfz63_5 := blk_frozen BK211.out 5
                            have hfz63_6 := blk_frozen BK211.out 6
                            have hfz63_7 := blk_frozen BK211.out 7
                            go_wp2_with (first | (go_at_call 50; (with_reducible refine (paydeskref03_Right.calls kj27 39 a0_5 t217 _ A62.out).mono ?_); rintro e w64 ⟨rfl, hb⟩; have n0_ := Aside0.mk (blk_below (g := gb211) (o := .cells #[.int .u32 a0_0, .string a0_1, .int .i64 a0_2, .string a0_3, .int .u64 a0_4, .string a0_5, .int .i64 a0_6, .int .i64 a0_7] 28 (0, 0)) (by (with_reducible repeat (first | refine blk_drewN ?_ _ | refine blk_drew ?_ | refine blk_alloc ?_ _)); exact BK211.out) hb); have n1_ := Aside0.mk (below_step (by repeat (first | (with_reducible first | exact HB.out | apply below_alloc | apply pw_below_drewN | apply below_drew1 | refine below_set ?_ GE211.out) | exact HB.out)) hb); clear BK211; clear HB; have BK211 := n0_; have HB := n1_; clear n0_ n1_; (try clear hb); (try clear hb2); (try clear hk); (try clear hi)))
                            go_ret
                            exact ⟨by first | rfl | (simp [errW_none, errW_some] <;> rfl) | (simp [*, errW_none, errW_some] <;> rfl), by repeat (first | (with_reducible first | exact HB.out | apply below_alloc | apply pw_below_drewN | apply below_drew1 | refine below_set ?_ GE211.out) | exact HB.out)⟩
                        · rw [if_neg c59] at H
                          have c59b0 : (a0_2 == 3) = false := beq_eq_false_iff_ne.mpr c59
                          have c59b1 : (a0_2 != 3) = true := bne_iff_ne.mpr c59
                          obtain rfl := Option.some.inj H
                          have hcz65_0 : wc.cell? ⟨gb211, 0, none⟩ = some (.int .u32 a0_0) := (blk_cell BK211.out 0).trans rfl
                          have hcz65_1 : wc.cell? ⟨gb211, 1, none⟩ = some (.string a0_1) := (blk_cell BK211.out 1).trans rfl
                          have hcz65_2 : wc.cell? ⟨gb211, 2, none⟩ = some (.int .i64 a0_2) := (blk_cell BK211.out 2).trans rfl
                          have hcz65_3 : wc.cell? ⟨gb211, 3, none⟩ = some (.string a0_3) := (blk_cell BK211.out 3).trans rfl
                          have hcz65_4 : wc.cell? ⟨gb211, 4, none⟩ = some (.int .u64 a0_4) := (blk_cell BK211.out 4).trans rfl
                          have hcz65_5 : wc.cell? ⟨gb211, 5, none⟩ = some (.string a0_5) := (blk_cell BK211.out 5).trans rfl
                          have hcz65_6 : wc.cell? ⟨gb211, 6, none⟩ = some (.int .i64 a0_6) := (blk_cell BK211.out 6).trans rfl
                          have hcz65_7 : wc.cell? ⟨gb211, 7, none⟩ = some (.int .i64 a0_7) := (blk_cell BK211.out 7).trans rfl
                          have hfz65_0 := blk_frozen BK211.out 0
                          have hfz65_1 := blk_frozen BK211.out 1
                          have hfz65_2 := blk_frozen BK211.out 2
                          have hfz65_3 := blk_frozen BK211.out 3
                          have hfz65_4 := blk_frozen BK211.out 4
                          have hfz65_5 := blk_frozen BK211.out 5
                          have hfz65_6 := blk_frozen BK211.out 6
                          have hfz65_7 := blk_frozen BK211.out 7
                          go_wp2
                          go_ret
                          exact ⟨by first | rfl | (simp [errW_none, errW_some] <;> rfl) | (simp [*, errW_none, errW_some] <;> rfl), by repeat (first | (with_reducible first | exact HB.out | apply below_alloc | apply pw_below_drewN | apply below_drew1 | refine below_set ?_ GE211.out) | exact HB.out)⟩
            · replace c27 := Bool.eq_false_iff.mpr c27
              subst c27
              have H1 : (if a0_2 > 3 then (if a0_2 < 7 then ((paydeskref03_Right.f kj20 39 a0_5).bind fun t218 => (if t218 = true then (if a0_6 ≥ 0 then (if a0_6 < 17 then (if a0_7 > 0 then (some (decide (a0_7 < 3))) else (some false)) else (some false)) else (some false)) else (some false))) else (some false)) else (some false)) = some r := by rw [if_neg (show ¬ (false = true) by decide)] at H; exact H
              clear H
              have H := H1
              clear H1
              by_cases c66 : a0_2 > 3
              · rw [if_pos c66] at H
                have c66b0 : decide (3 < a0_2) = true := decide_eq_true c66
                clear c66
                by_cases c67 : a0_2 < 7
                · rw [if_pos c67] at H
                  have c67b0 : decide (a0_2 < 7) = true := decide_eq_true c67
                  clear c67
                  replace H := Option.bind_eq_some_iff.mp H
                  obtain ⟨t218, A680, H⟩ := H
                  replace H : (if t218 = true then (if a0_6 ≥ 0 then (if a0_6 < 17 then (if a0_7 > 0 then (some (decide (a0_7 < 3))) else (some false)) else (some false)) else (some false)) else (some false)) = some r := H
                  have A68 := Aside0.mk A680
                  clear A680
                  by_cases c69 : t218 = true
                  · subst c69
                    have H1 : (if a0_6 ≥ 0 then (if a0_6 < 17 then (if a0_7 > 0 then (some (decide (a0_7 < 3))) else (some false)) else (some false)) else (some false)) = some r := by rw [if_pos rfl] at H; exact H
                    clear H
                    have H := H1
                    clear H1
                    by_cases c70 : a0_6 ≥ 0
                    · rw [if_pos c70] at H
                      have c70b0 : decide (0 ≤ a0_6) = true := decide_eq_true c70
                      clear c70
                      by_cases c71 : a0_6 < 17
                      · rw [if_pos c71] at H
                        have c71b0 : decide (a0_6 < 17) = true := decide_eq_true c71
                        clear c71
                        by_cases c72 : a0_7 > 0
                        · rw [if_pos c72] at H
                          have c72b0 : decide (0 < a0_7) = true := decide_eq_true c72
                          clear c72
                          obtain rfl := Option.some.inj H
                          have hcz73_0 : wc.cell? ⟨gb211, 0, none⟩ = some (.int .u32 a0_0) := (blk_cell BK211.out 0).trans rfl
                          have hcz73_1 : wc.cell? ⟨gb211, 1, none⟩ = some (.string a0_1) := (blk_cell BK211.out 1).trans rfl
                          have hcz73_2 : wc.cell? ⟨gb211, 2, none⟩ = some (.int .i64 a0_2) := (blk_cell BK211.out 2).trans rfl
                          have hcz73_3 : wc.cell? ⟨gb211, 3, none⟩ = some (.string a0_3) := (blk_cell BK211.out 3).trans rfl
                          have hcz73_4 : wc.cell? ⟨gb211, 4, none⟩ = some (.int .u64 a0_4) := (blk_cell BK211.out 4).trans rfl
                          have hcz73_5 : wc.cell? ⟨gb211, 5, none⟩ = some (.string a0_5) := (blk_cell BK211.out 5).trans rfl
                          have hcz73_6 : wc.cell? ⟨gb211, 6, none⟩ = some (.int .i64 a0_6) := (blk_cell BK211.out 6).trans rfl
                          have hcz73_7 : wc.cell? ⟨gb211, 7, none⟩ = some (.int .i64 a0_7) := (blk_cell BK211.out 7).trans rfl
                          have hfz73_0 := blk_frozen BK211.out 0
                          have hfz73_1 := blk_frozen BK211.out 1
                          have hfz73_2 := blk_frozen BK211.out 2
                          have hfz73_3 := blk_frozen BK211.out 3
                          have hfz73_4 := blk_frozen BK211.out 4
                          have hfz73_5 := blk_frozen BK211.out 5
                          have hfz73_6 := blk_frozen BK211.out 6
                          have hfz73_7 := blk_frozen BK211.out 7
                          go_wp2_with (first | (go_at_call 50; (with_reducible refine (paydeskref03_Right.calls kj20 39 a0_5 true _ A68.out).mono ?_); rintro e w74 ⟨rfl, hb⟩; have n0_ := Aside0.mk (blk_below (g := gb211) (o := .cells #[.int .u32 a0_0, .string a0_1, .int .i64 a0_2, .string a0_3, .int .u64 a0_4, .string a0_5, .int .i64 a0_6, .int .i64 a0_7] 28 (0, 0)) (by (with_reducible repeat (first | refine blk_drewN ?_ _ | refine blk_drew ?_ | refine blk_alloc ?_ _)); exact BK211.out) hb); have n1_ := Aside0.mk (below_step (by repeat (first | (with_reducible first | exact HB.out | apply below_alloc | apply pw_below_drewN | apply below_drew1 | refine below_set ?_ GE211.out) | exact HB.out)) hb); clear BK211; clear HB; have BK211 := n0_; have HB := n1_; clear n0_ n1_; (try clear hb); (try clear hb2); (try clear hk); (try clear hi); have hcz75_0 : w74.cell? ⟨gb211, 0, none⟩ = some (.int .u32 a0_0) := (blk_cell BK211.out 0).trans rfl; have hcz75_1 : w74.cell? ⟨gb211, 1, none⟩ = some (.string a0_1) := (blk_cell BK211.out 1).trans rfl; have hcz75_2 : w74.cell? ⟨gb211, 2, none⟩ = some (.int .i64 a0_2) := (blk_cell BK211.out 2).trans rfl; have hcz75_3 : w74.cell? ⟨gb211, 3, none⟩ = some (.string a0_3) := (blk_cell BK211.out 3).trans rfl; have hcz75_4 : w74.cell? ⟨gb211, 4, none⟩ = some (.int .u64 a0_4) := (blk_cell BK211.out 4).trans rfl; have hcz75_5 : w74.cell? ⟨gb211, 5, none⟩ = some (.string a0_5) := (blk_cell BK211.out 5).trans rfl; have hcz75_6 : w74.cell? ⟨gb211, 6, none⟩ = some (.int .i64 a0_6) := (blk_cell BK211.out 6).trans rfl; have hcz75_7 : w74.cell? ⟨gb211, 7, none⟩ = some (.int .i64 a0_7) := (blk_cell BK211.out 7).trans rfl; have hfz75_0 := blk_frozen BK211.out 0; have hfz75_1 := blk_frozen BK211.out 1; have hfz75_2 := blk_frozen BK211.out 2; have hfz75_3 := blk_frozen BK211.out 3; have hfz75_4 := blk_frozen BK211.out 4; have hfz75_5 := blk_frozen BK211.out 5; have hfz75_6 := blk_frozen BK211.out 6; have hfz75_7 := blk_frozen BK211.out 7))
                          go_ret
                          exact ⟨by first | rfl | (simp [errW_none, errW_some] <;> rfl) | (simp [*, errW_none, errW_some] <;> rfl), by repeat (first | (with_reducible first | exact HB.out | apply below_alloc | apply pw_below_drewN | apply below_drew1 | refine below_set ?_ GE211.out) | exact HB.out)⟩
                        · rw [if_neg c72] at H
                          have c72b0 : decide (0 < a0_7) = false := decide_eq_false c72
                          clear c72
                          obtain rfl := Option.some.inj H
                          have hcz76_0 : wc.cell? ⟨gb211, 0, none⟩ = some (.int .u32 a0_0) := (blk_cell BK211.out 0).trans rfl
                          have hcz76_1 : wc.cell? ⟨gb211, 1, none⟩ = some (.string a0_1) := (blk_cell BK211.out 1).trans rfl
                          have hcz76_2 : wc.cell? ⟨gb211, 2, none⟩ = some (.int .i64 a0_2) := (blk_cell BK211.out 2).trans rfl
                          have hcz76_3 : wc.cell? ⟨gb211, 3, none⟩ = some (.string a0_3) := (blk_cell BK211.out 3).trans rfl
                          have hcz76_4 : wc.cell? ⟨gb211, 4, none⟩ = some (.int .u64 a0_4) := (blk_cell BK211.out 4).trans rfl
                          have hcz76_5 : wc.cell? ⟨gb211, 5, none⟩ = some (.string a0_5) := (blk_cell BK211.out 5).trans rfl
                          have hcz76_6 : wc.cell? ⟨gb211, 6, none⟩ = some (.int .i64 a0_6) := (blk_cell BK211.out 6).trans rfl
                          have hcz76_7 : wc.cell? ⟨gb211, 7, none⟩ = some (.int .i64 a0_7) := (blk_cell BK211.out 7).trans rfl
                          have hfz76_0 := blk_frozen BK211.out 0
                          have hfz76_1 := blk_frozen BK211.out 1
                          have hfz76_2 := blk_frozen BK211.out 2
                          have hfz76_3 := blk_frozen BK211.out 3
                          have hfz76_4 := blk_frozen BK211.out 4
                          have hfz76_5 := blk_frozen BK211.out 5
                          have hfz76_6 := blk_frozen BK211.out 6
                          have hfz76_7 := blk_frozen BK211.out 7
                          go_wp2_with (first | (go_at_call 50; (with_reducible refine (paydeskref03_Right.calls kj20 39 a0_5 true _ A68.out).mono ?_); rintro e w77 ⟨rfl, hb⟩; have n0_ := Aside0.mk (blk_below (g := gb211) (o := .cells #[.int .u32 a0_0, .string a0_1, .int .i64 a0_2, .string a0_3, .int .u64 a0_4, .string a0_5, .int .i64 a0_6, .int .i64 a0_7] 28 (0, 0)) (by (with_reducible repeat (first | refine blk_drewN ?_ _ | refine blk_drew ?_ | refine blk_alloc ?_ _)); exact BK211.out) hb); have n1_ := Aside0.mk (below_step (by repeat (first | (with_reducible first | exact HB.out | apply below_alloc | apply pw_below_drewN | apply below_drew1 | refine below_set ?_ GE211.out) | exact HB.out)) hb); clear BK211; clear HB; have BK211 := n0_; have HB := n1_; clear n0_ n1_; (try clear hb); (try clear hb2); (try clear hk); (try clear hi); have hcz78_0 : w77.cell? ⟨gb211, 0, none⟩ = some (.int .u32 a0_0) := (blk_cell BK211.out 0).trans rfl; have hcz78_1 : w77.cell? ⟨gb211, 1, none⟩ = some (.string a0_1) := (blk_cell BK211.out 1).trans rfl; have hcz78_2 : w77.cell? ⟨gb211, 2, none⟩ = some (.int .i64 a0_2) := (blk_cell BK211.out 2).trans rfl; have hcz78_3 : w77.cell? ⟨gb211, 3, none⟩ = some (.string a0_3) := (blk_cell BK211.out 3).trans rfl; have hcz78_4 : w77.cell? ⟨gb211, 4, none⟩ = some (.int .u64 a0_4) := (blk_cell BK211.out 4).trans rfl; have hcz78_5 : w77.cell? ⟨gb211, 5, none⟩ = some (.string a0_5) := (blk_cell BK211.out 5).trans rfl; have hcz78_6 : w77.cell? ⟨gb211, 6, none⟩ = some (.int .i64 a0_6) := (blk_cell BK211.out 6).trans rfl; have hcz78_7 : w77.cell? ⟨gb211, 7, none⟩ = some (.int .i64 a0_7) := (blk_cell BK211.out 7).trans rfl; have hfz78_0 := blk_frozen BK211.out 0; have hfz78_1 := blk_frozen BK211.out 1; have hfz78_2 := blk_frozen BK211.out 2; have hfz78_3 := blk_frozen BK211.out 3; have hfz78_4 := blk_frozen BK211.out 4; have hfz78_5 := blk_frozen BK211.out 5; have hfz78_6 := blk_frozen BK211.out 6; have hfz78_7 := blk_frozen BK211.out 7))
                          go_ret
                          exact ⟨by first | rfl | (simp [errW_none, errW_some] <;> rfl) | (simp [*, errW_none, errW_some] <;> rfl), by repeat (first | (with_reducible first | exact HB.out | apply below_alloc | apply pw_below_drewN | apply below_drew1 | refine below_set ?_ GE211.out) | exact HB.out)⟩
                      · rw [if_neg c71] at H
                        have c71b0 : decide (a0_6 < 17) = false := decide_eq_false c71
                        clear c71
                        obtain rfl := Option.some.inj H
                        have hcz79_0 : wc.cell? ⟨gb211, 0, none⟩ = some (.int .u32 a0_0) := (blk_cell BK211.out 0).trans rfl
                        have hcz79_1 : wc.cell? ⟨gb211, 1, none⟩ = some (.string a0_1) := (blk_cell BK211.out 1).trans rfl
                        have hcz79_2 : wc.cell? ⟨gb211, 2, none⟩ = some (.int .i64 a0_2) := (blk_cell BK211.out 2).trans rfl
                        have hcz79_3 : wc.cell? ⟨gb211, 3, none⟩ = some (.string a0_3) := (blk_cell BK211.out 3).trans rfl
                        have hcz79_4 : wc.cell? ⟨gb211, 4, none⟩ = some (.int .u64 a0_4) := (blk_cell BK211.out 4).trans rfl
                        have hcz79_5 : wc.cell? ⟨gb211, 5, none⟩ = some (.string a0_5) := (blk_cell BK211.out 5).trans rfl
                        have hcz79_6 : wc.cell? ⟨gb211, 6, none⟩ = some (.int .i64 a0_6) := (blk_cell BK211.out 6).trans rfl
                        have hcz79_7 : wc.cell? ⟨gb211, 7, none⟩ = some (.int .i64 a0_7) := (blk_cell BK211.out 7).trans rfl
                        have hfz79_0 := blk_frozen BK211.out 0
                        have hfz79_1 := blk_frozen BK211.out 1
                        have hfz79_2 := blk_frozen BK211.out 2
                        have hfz79_3 := blk_frozen BK211.out 3
                        have hfz79_4 := blk_frozen BK211.out 4
                        have hfz79_5 := blk_frozen BK211.out 5
                        have hfz79_6 := blk_frozen BK211.out 6
                        have hfz79_7 := blk_frozen BK211.out 7
                        go_wp2_with (first | (go_at_call 50; (with_reducible refine (paydeskref03_Right.calls kj20 39 a0_5 true _ A68.out).mono ?_); rintro e w80 ⟨rfl, hb⟩; have n0_ := Aside0.mk (blk_below (g := gb211) (o := .cells #[.int .u32 a0_0, .string a0_1, .int .i64 a0_2, .string a0_3, .int .u64 a0_4, .string a0_5, .int .i64 a0_6, .int .i64 a0_7] 28 (0, 0)) (by (with_reducible repeat (first | refine blk_drewN ?_ _ | refine blk_drew ?_ | refine blk_alloc ?_ _)); exact BK211.out) hb); have n1_ := Aside0.mk (below_step (by repeat (first | (with_reducible first | exact HB.out | apply below_alloc | apply pw_below_drewN | apply below_drew1 | refine below_set ?_ GE211.out) | exact HB.out)) hb); clear BK211; clear HB; have BK211 := n0_; have HB := n1_; clear n0_ n1_; (try clear hb); (try clear hb2); (try clear hk); (try clear hi); have hcz81_0 : w80.cell? ⟨gb211, 0, none⟩ = some (.int .u32 a0_0) := (blk_cell BK211.out 0).trans rfl; have hcz81_1 : w80.cell? ⟨gb211, 1, none⟩ = some (.string a0_1) := (blk_cell BK211.out 1).trans rfl; have hcz81_2 : w80.cell? ⟨gb211, 2, none⟩ = some (.int .i64 a0_2) := (blk_cell BK211.out 2).trans rfl; have hcz81_3 : w80.cell? ⟨gb211, 3, none⟩ = some (.string a0_3) := (blk_cell BK211.out 3).trans rfl; have hcz81_4 : w80.cell? ⟨gb211, 4, none⟩ = some (.int .u64 a0_4) := (blk_cell BK211.out 4).trans rfl; have hcz81_5 : w80.cell? ⟨gb211, 5, none⟩ = some (.string a0_5) := (blk_cell BK211.out 5).trans rfl; have hcz81_6 : w80.cell? ⟨gb211, 6, none⟩ = some (.int .i64 a0_6) := (blk_cell BK211.out 6).trans rfl; have hcz81_7 : w80.cell? ⟨gb211, 7, none⟩ = some (.int .i64 a0_7) := (blk_cell BK211.out 7).trans rfl; have hfz81_0 := blk_frozen BK211.out 0; have hfz81_1 := blk_frozen BK211.out 1; have hfz81_2 := blk_frozen BK211.out 2; have hfz81_3 := blk_frozen BK211.out 3; have hfz81_4 := blk_frozen BK211.out 4; have hfz81_5 := blk_frozen BK211.out 5; have hfz81_6 := blk_frozen BK211.out 6; have hfz81_7 := blk_frozen BK211.out 7))
                        go_ret
                        exact ⟨by first | rfl | (simp [errW_none, errW_some] <;> rfl) | (simp [*, errW_none, errW_some] <;> rfl), by repeat (first | (with_reducible first | exact HB.out | apply below_alloc | apply pw_below_drewN | apply below_drew1 | refine below_set ?_ GE211.out) | exact HB.out)⟩
                    · rw [if_neg c70] at H
                      have c70b0 : decide (0 ≤ a0_6) = false := decide_eq_false c70
                      clear c70
                      obtain rfl := Option.some.inj H
                      have hcz82_0 : wc.cell? ⟨gb211, 0, none⟩ = some (.int .u32 a0_0) := (blk_cell BK211.out 0).trans rfl
                      have hcz82_1 : wc.cell? ⟨gb211, 1, none⟩ = some (.string a0_1) := (blk_cell BK211.out 1).trans rfl
                      have hcz82_2 : wc.cell? ⟨gb211, 2, none⟩ = some (.int .i64 a0_2) := (blk_cell BK211.out 2).trans rfl
                      have hcz82_3 : wc.cell? ⟨gb211, 3, none⟩ = some (.string a0_3) := (blk_cell BK211.out 3).trans rfl
                      have hcz82_4 : wc.cell? ⟨gb211, 4, none⟩ = some (.int .u64 a0_4) := (blk_cell BK211.out 4).trans rfl
                      have hcz82_5 : wc.cell? ⟨gb211, 5, none⟩ = some (.string a0_5) := (blk_cell BK211.out 5).trans rfl
                      have hcz82_6 : wc.cell? ⟨gb211, 6, none⟩ = some (.int .i64 a0_6) := (blk_cell BK211.out 6).trans rfl
                      have hcz82_7 : wc.cell? ⟨gb211, 7, none⟩ = some (.int .i64 a0_7) := (blk_cell BK211.out 7).trans rfl
                      have hfz82_0 := blk_frozen BK211.out 0
                      have hfz82_1 := blk_frozen BK211.out 1
                      have hfz82_2 := blk_frozen BK211.out 2
                      have hfz82_3 := blk_frozen BK211.out 3
                      have hfz82_4 := blk_frozen BK211.out 4
                      have hfz82_5 := blk_frozen BK211.out 5
                      have hfz82_6 := blk_frozen BK211.out 6
                      have hfz82_7 := blk_frozen BK211.out 7
                      go_wp2_with (first | (go_at_call 50; (with_reducible refine (paydeskref03_Right.calls kj20 39 a0_5 true _ A68.out).mono ?_); rintro e w83 ⟨rfl, hb⟩; have n0_ := Aside0.mk (blk_below (g := gb211) (o := .cells #[.int .u32 a0_0, .string a0_1, .int .i64 a0_2, .string a0_3, .int .u64 a0_4, .string a0_5, .int .i64 a0_6, .int .i64 a0_7] 28 (0, 0)) (by (with_reducible repeat (first | refine blk_drewN ?_ _ | refine blk_drew ?_ | refine blk_alloc ?_ _)); exact BK211.out) hb); have n1_ := Aside0.mk (below_step (by repeat (first | (with_reducible first | exact HB.out | apply below_alloc | apply pw_below_drewN | apply below_drew1 | refine below_set ?_ GE211.out) | exact HB.out)) hb); clear BK211; clear HB; have BK211 := n0_; have HB := n1_; clear n0_ n1_; (try clear hb); (try clear hb2); (try clear hk); (try clear hi); have hcz84_0 : w83.cell? ⟨gb211, 0, none⟩ = some (.int .u32 a0_0) := (blk_cell BK211.out 0).trans rfl; have hcz84_1 : w83.cell? ⟨gb211, 1, none⟩ = some (.string a0_1) := (blk_cell BK211.out 1).trans rfl; have hcz84_2 : w83.cell? ⟨gb211, 2, none⟩ = some (.int .i64 a0_2) := (blk_cell BK211.out 2).trans rfl; have hcz84_3 : w83.cell? ⟨gb211, 3, none⟩ = some (.string a0_3) := (blk_cell BK211.out 3).trans rfl; have hcz84_4 : w83.cell? ⟨gb211, 4, none⟩ = some (.int .u64 a0_4) := (blk_cell BK211.out 4).trans rfl; have hcz84_5 : w83.cell? ⟨gb211, 5, none⟩ = some (.string a0_5) := (blk_cell BK211.out 5).trans rfl; have hcz84_6 : w83.cell? ⟨gb211, 6, none⟩ = some (.int .i64 a0_6) := (blk_cell BK211.out 6).trans rfl; have hcz84_7 : w83.cell? ⟨gb211, 7, none⟩ = some (.int .i64 a0_7) := (blk_cell BK211.out 7).trans rfl; have hfz84_0 := blk_frozen BK211.out 0; have hfz84_1 := blk_frozen BK211.out 1; have hfz84_2 := blk_frozen BK211.out 2; have hfz84_3 := blk_frozen BK211.out 3; have hfz84_4 := blk_frozen BK211.out 4; have hfz84_5 := blk_frozen BK211.out 5; have hfz84_6 := blk_frozen BK211.out 6; have hfz84_7 := blk_frozen BK211.out 7))
                      go_ret
                      exact ⟨by first | rfl | (simp [errW_none, errW_some] <;> rfl) | (simp [*, errW_none, errW_some] <;> rfl), by repeat (first | (with_reducible first | exact HB.out | apply below_alloc | apply pw_below_drewN | apply below_drew1 | refine below_set ?_ GE211.out) | exact HB.out)⟩
                  · replace c69 := Bool.eq_false_iff.mpr c69
                    subst c69
                    have H1 : (some false) = some r := by rw [if_neg (show ¬ (false = true) by decide)] at H; exact H
                    clear H
                    have H := H1
                    clear H1
                    obtain rfl := Option.some.inj H
                    have hcz85_0 : wc.cell? ⟨gb211, 0, none⟩ = some (.int .u32 a0_0) := (blk_cell BK211.out 0).trans rfl
                    have hcz85_1 : wc.cell? ⟨gb211, 1, none⟩ = some (.string a0_1) := (blk_cell BK211.out 1).trans rfl
                    have hcz85_2 : wc.cell? ⟨gb211, 2, none⟩ = some (.int .i64 a0_2) := (blk_cell BK211.out 2).trans rfl
                    have hcz85_3 : wc.cell? ⟨gb211, 3, none⟩ = some (.string a0_3) := (blk_cell BK211.out 3).trans rfl
                    have hcz85_4 : wc.cell? ⟨gb211, 4, none⟩ = some (.int .u64 a0_4) := (blk_cell BK211.out 4).trans rfl
                    have hcz85_5 : wc.cell? ⟨gb211, 5, none⟩ = some (.string a0_5) := (blk_cell BK211.out 5).trans rfl
                    have hcz85_6 : wc.cell? ⟨gb211, 6, none⟩ = some (.int .i64 a0_6) := (blk_cell BK211.out 6).trans rfl
                    have hcz85_7 : wc.cell? ⟨gb211, 7, none⟩ = some (.int .i64 a0_7) := (blk_cell BK211.out 7).trans rfl
                    have hfz85_0 := blk_frozen BK211.out 0
                    have hfz85_1 := blk_frozen BK211.out 1
                    have hfz85_2 := blk_frozen BK211.out 2
                    have hfz85_3 := blk_frozen BK211.out 3
                    have hfz85_4 := blk_frozen BK211.out 4
                    have hfz85_5 := blk_frozen BK211.out 5
                    have hfz85_6 := blk_frozen BK211.out 6
                    have hfz85_7 := blk_frozen BK211.out 7
                    go_wp2_with (first | (go_at_call 50; (with_reducible refine (paydeskref03_Right.calls kj20 39 a0_5 false _ A68.out).mono ?_); rintro e w86 ⟨rfl, hb⟩; have n0_ := Aside0.mk (blk_below (g := gb211) (o := .cells #[.int .u32 a0_0, .string a0_1, .int .i64 a0_2, .string a0_3, .int .u64 a0_4, .string a0_5, .int .i64 a0_6, .int .i64 a0_7] 28 (0, 0)) (by (with_reducible repeat (first | refine blk_drewN ?_ _ | refine blk_drew ?_ | refine blk_alloc ?_ _)); exact BK211.out) hb); have n1_ := Aside0.mk (below_step (by repeat (first | (with_reducible first | exact HB.out | apply below_alloc | apply pw_below_drewN | apply below_drew1 | refine below_set ?_ GE211.out) | exact HB.out)) hb); clear BK211; clear HB; have BK211 := n0_; have HB := n1_; clear n0_ n1_; (try clear hb); (try clear hb2); (try clear hk); (try clear hi)))
                    go_ret
                    exact ⟨by first | rfl | (simp [errW_none, errW_some] <;> rfl) | (simp [*, errW_none, errW_some] <;> rfl), by repeat (first | (with_reducible first | exact HB.out | apply below_alloc | apply pw_below_drewN | apply below_drew1 | refine below_set ?_ GE211.out) | exact HB.out)⟩
                · rw [if_neg c67] at H
                  have c67b0 : decide (a0_2 < 7) = false := decide_eq_false c67
                  clear c67
                  obtain rfl := Option.some.inj H
                  have hcz87_0 : wc.cell? ⟨gb211, 0, none⟩ = some (.int .u32 a0_0) := (blk_cell BK211.out 0).trans rfl
                  have hcz87_1 : wc.cell? ⟨gb211, 1, none⟩ = some (.string a0_1) := (blk_cell BK211.out 1).trans rfl
                  have hcz87_2 : wc.cell? ⟨gb211, 2, none⟩ = some (.int .i64 a0_2) := (blk_cell BK211.out 2).trans rfl
                  have hcz87_3 : wc.cell? ⟨gb211, 3, none⟩ = some (.string a0_3) := (blk_cell BK211.out 3).trans rfl
                  have hcz87_4 : wc.cell? ⟨gb211, 4, none⟩ = some (.int .u64 a0_4) := (blk_cell BK211.out 4).trans rfl
                  have hcz87_5 : wc.cell? ⟨gb211, 5, none⟩ = some (.string a0_5) := (blk_cell BK211.out 5).trans rfl
                  have hcz87_6 : wc.cell? ⟨gb211, 6, none⟩ = some (.int .i64 a0_6) := (blk_cell BK211.out 6).trans rfl
                  have hcz87_7 : wc.cell? ⟨gb211, 7, none⟩ = some (.int .i64 a0_7) := (blk_cell BK211.out 7).trans rfl
                  have hfz87_0 := blk_frozen BK211.out 0
                  have hfz87_1 := blk_frozen BK211.out 1
                  have hfz87_2 := blk_frozen BK211.out 2
                  have hfz87_3 := blk_frozen BK211.out 3
                  have hfz87_4 := blk_frozen BK211.out 4
                  have hfz87_5 := blk_frozen BK211.out 5
                  have hfz87_6 := blk_frozen BK211.out 6
                  have hfz87_7 := blk_frozen BK211.out 7
                  go_wp2
                  go_ret
                  exact ⟨by first | rfl | (simp [errW_none, errW_some] <;> rfl) | (simp [*, errW_none, errW_some] <;> rfl), by repeat (first | (with_reducible first | exact HB.out | apply below_alloc | apply pw_below_drewN | apply below_drew1 | refine below_set ?_ GE211.out) | exact HB.out)⟩
              · rw [if_neg c66] at H
                have c66b0 : decide (3 < a0_2) = false := decide_eq_false c66
                clear c66
                obtain rfl := Option.some.inj H
                have hcz88_0 : wc.cell? ⟨gb211, 0, none⟩ = some (.int .u32 a0_0) := (blk_cell BK211.out 0).trans rfl
                have hcz88_1 : wc.cell? ⟨gb211, 1, none⟩ = some (.string a0_1) := (blk_cell BK211.out 1).trans rfl
                have hcz88_2 : wc.cell? ⟨gb211, 2, none⟩ = some (.int .i64 a0_2) := (blk_cell BK211.out 2).trans rfl
                have hcz88_3 : wc.cell? ⟨gb211, 3, none⟩ = some (.string a0_3) := (blk_cell BK211.out 3).trans rfl
                have hcz88_4 : wc.cell? ⟨gb211, 4, none⟩ = some (.int .u64 a0_4) := (blk_cell BK211.out 4).trans rfl
                have hcz88_5 : wc.cell? ⟨gb211, 5, none⟩ = some (.string a0_5) := (blk_cell BK211.out 5).trans rfl
                have hcz88_6 : wc.cell? ⟨gb211, 6, none⟩ = some (.int .i64 a0_6) := (blk_cell BK211.out 6).trans rfl
                have hcz88_7 : wc.cell? ⟨gb211, 7, none⟩ = some (.int .i64 a0_7) := (blk_cell BK211.out 7).trans rfl
                have hfz88_0 := blk_frozen BK211.out 0
                have hfz88_1 := blk_frozen BK211.out 1
                have hfz88_2 := blk_frozen BK211.out 2
                have hfz88_3 := blk_frozen BK211.out 3
                have hfz88_4 := blk_frozen BK211.out 4
                have hfz88_5 := blk_frozen BK211.out 5
                have hfz88_6 := blk_frozen BK211.out 6
                have hfz88_7 := blk_frozen BK211.out 7
                go_wp2
                go_ret
                exact ⟨by first | rfl | (simp [errW_none, errW_some] <;> rfl) | (simp [*, errW_none, errW_some] <;> rfl), by repeat (first | (with_reducible first | exact HB.out | apply below_alloc | apply pw_below_drewN | apply below_drew1 | refine below_set ?_ GE211.out) | exact HB.out)⟩
end Go.Proofs.YtkgkemihhfipaaaDoor.HK

/- Packed by pack.py (this session's own program): texts of the kit's printer and of my own, what is not used struck. -/
import Derived.Test.YtkgkemihhfipaaaDoorRHKx0
import Derived.Test.YtkgkemihhfipaaaDoorRHKx5
namespace Go.Proofs.YtkgkemihhfipaaaDoor.HK
open Go.RowKit Go.Proofs.YtkgkemihhfipaaaDoorW.PrintWords Go.Proofs.YtkgkemihhfipaaaDoorW.PrintLast Go.Proofs.YtkgkemihhfipaaaDoorW.PrintMore
attribute [local go_sem] max2_int min2_int max_two min_two max_three min_three max_four min_four
set_option linter.unusedVariables false
set_option linter.unusedSimpArgs false
set_option linter.unusedSectionVars false
variable [digit_Fine.Has]
variable [field_Right.Has]
variable [paydeskref07_Order.Has]
def shard_staged.j0 : Nat → Bool → Int → ByteArray → Int → ByteArray → Int → ByteArray → Int → Int → Option (Bool)
  | 0, _, _, _, _, _, _, _, _, _ => none
  | k + 1, x15, x200000, x200001, x200002, x200003, x200004, x200005, x200006, x200007 => if x15 = true then (some false) else (if x200002 = 1 then (some (x200005.toList == ([] : List UInt8))) else (if x200002 = 2 then (some (x200005.toList == ([48, 48] : List UInt8))) else (if x200002 = 3 then (if x200005.toList = ([48, 48] : List UInt8) then (some false) else ((field_Right.f k 39 x200005).bind fun t200 => (some t200))) else (if x200002 = 4 then ((field_Right.f k 39 x200005).bind fun t201 => (if t201 = true then (if x200006 ≥ 0 then (if x200006 ≤ 16 then (if x200007 = 1 then (some true) else (some (x200007 == 2))) else (some false)) else (some false)) else (some false))) else (if x200002 = 5 then ((field_Right.f k 39 x200005).bind fun t202 => (if t202 = true then (if x200006 ≥ 0 then (if x200006 ≤ 16 then (if x200007 = 1 then (some true) else (some (x200007 == 2))) else (some false)) else (some false)) else (some false))) else (if x200002 = 6 then ((field_Right.f k 39 x200005).bind fun t203 => (if t203 = true then (if x200006 ≥ 0 then (if x200006 ≤ 16 then (if x200007 = 1 then (some true) else (some (x200007 == 2))) else (some false)) else (some false)) else (some false))) else (some false)))))))
def shard_staged.f (k : Nat) (a0_0 : Int) (a0_1 : ByteArray) (a0_2 : Int) (a0_3 : ByteArray) (a0_4 : Int) (a0_5 : ByteArray) (a0_6 : Int) (a0_7 : Int) : Option (Bool) := if a0_2 < 4 then (if a0_6 = 0 then (shard_staged.j0 k (a0_7 != 0) a0_0 a0_1 a0_2 a0_3 a0_4 a0_5 a0_6 a0_7) else (shard_staged.j0 k true a0_0 a0_1 a0_2 a0_3 a0_4 a0_5 a0_6 a0_7)) else (shard_staged.j0 k false a0_0 a0_1 a0_2 a0_3 a0_4 a0_5 a0_6 a0_7)
theorem shard_staged.mono_l : ∀ k, (∀ y0 y1 y2 y3 y4 y5 y6 y7 y8, LeO (shard_staged.j0 k y0 y1 y2 y3 y4 y5 y6 y7 y8) (shard_staged.j0 (k + 1) y0 y1 y2 y3 y4 y5 y6 y7 y8))
  | 0 => fun _ _ _ _ _ _ _ _ _ r h => by simp [shard_staged.j0] at h
  | k + 1 => by
    have ih0 := shard_staged.mono_l k
    · intro y0 y1 y2 y3 y4 y5 y6 y7 y8
      unfold shard_staged.j0
      repeat' first
      | (with_reducible exact ih0 _ _ _ _ _ _ _ _ _)
      | (with_reducible exact field_Right.mono _ _ _)
      | (with_reducible exact LeO.refl _)
      | (with_reducible exact LeO.none _)
      | (with_reducible refine LeO.ite ?_ ?_)
      | (with_reducible refine LeO.bind ?_ (fun _ => ?_))
      | exact ih0 _ _ _ _ _ _ _ _ _
      | exact field_Right.mono _ _ _
      | exact LeO.none _
      | refine LeO.ite ?_ ?_
      | refine LeO.bind ?_ (fun _ => ?_)
theorem shard_staged.mono : ∀ a0 a1 a2 a3 a4 a5 a6 a7 k, LeO (shard_staged.f k a0 a1 a2 a3 a4 a5 a6 a7) (shard_staged.f (k + 1) a0 a1 a2 a3 a4 a5 a6 a7) := by
  intro a0 a1 a2 a3 a4 a5 a6 a7 k
  have ih0 := shard_staged.mono_l k
  unfold shard_staged.f
  repeat' first
      | (with_reducible exact ih0 _ _ _ _ _ _ _ _ _)
      | (with_reducible exact field_Right.mono _ _ _)
      | (with_reducible exact LeO.refl _)
      | (with_reducible exact LeO.none _)
      | (with_reducible refine LeO.ite ?_ ?_)
      | (with_reducible refine LeO.bind ?_ (fun _ => ?_))
      | exact ih0 _ _ _ _ _ _ _ _ _
      | exact field_Right.mono _ _ _
      | exact LeO.none _
      | refine LeO.ite ?_ ?_
      | refine LeO.bind ?_ (fun _ => ?_)
set_option maxHeartbeats 8000000 in
set_option maxRecDepth 100000 in
theorem shard_staged.calls (k : Nat) (a0_0 : Int) (a0_1 : ByteArray) (a0_2 : Int) (a0_3 : ByteArray) (a0_4 : Int) (a0_5 : ByteArray) (a0_6 : Int) (a0_7 : Int) (r : Bool) (w : World) (h : shard_staged.f k a0_0 a0_1 a0_2 a0_3 a0_4 a0_5 a0_6 a0_7 = some r) :
    Calls Tryd.prog 47 #[.agg #[.int .u32 a0_0, .string a0_1, .int .i64 a0_2, .string a0_3, .int .u64 a0_4, .string a0_5, .int .i64 a0_6, .int .i64 a0_7]] w fun e w' => e = .returned (.bool r) ∧ Below w.heap.size w w' := by
  have hu28 := Tryd.underlying28
  have HB := Aside0.mk (Below.refl w.heap.size w)
  have H : (if a0_2 < 4 then (if a0_6 = 0 then (shard_staged.j0 k (a0_7 != 0) a0_0 a0_1 a0_2 a0_3 a0_4 a0_5 a0_6 a0_7) else (shard_staged.j0 k true a0_0 a0_1 a0_2 a0_3 a0_4 a0_5 a0_6 a0_7)) else (shard_staged.j0 k false a0_0 a0_1 a0_2 a0_3 a0_4 a0_5 a0_6 a0_7)) = some r := h
  clear h
  have HC2 := Aside0.mk H
  clear H
  go_enter Tryd.func47, Tryd.ntmps47
  go_upto_region 1 with (first | ((with_reducible refine gate_dst (N := 1) rfl ?_); refine box_event ?hg (N := 1) ?hd (cs := #[.int .u32 a0_0, .string a0_1, .int .i64 a0_2, .string a0_3, .int .u64 a0_4, .string a0_5, .int .i64 a0_6, .int .i64 a0_7]) (t := 28) ?hr ?_; (case hd => rfl); (case hg => rfl); (case hr => first | (go_simp; done) | (go_simp; rfl)); intro gb199 hg w3 hbox hb; have n0_ := Aside0.mk (below_step (by repeat (first | (with_reducible first | exact HB.out | apply below_alloc | apply pw_below_drewN | apply below_drew1) | exact HB.out)) hb); have n1_ := Aside0.mk (hbox); have n2_ := Aside0.mk ((by rw [hg]; exact (below_size (by repeat (first | (with_reducible first | exact HB.out | apply below_alloc | apply pw_below_drewN | apply below_drew1) | exact HB.out))) : w.heap.size ≤ gb199)); have n3_ := Aside0.mk ((by rw [hg]; exact (below_size (by repeat (first | (with_reducible first | exact HB.out | apply below_alloc | apply pw_below_drewN | apply below_drew1) | exact HB.out))) : w.heap.size ≤ gb199)); clear HB; have HB := n0_; have BK199 := n1_; have GW199 := n2_; have GE199 := n3_; clear n0_ n1_ n2_ n3_; clear hb hbox hg))
  (try simp only [Act.put, List.setIfInBounds_toArray, List.set_cons_zero, List.set_cons_succ])
  go_cut [15] (fun v15 wc => ∃ (kq : Nat) (x15_1 : Bool), v15 = .bool x15_1 ∧ Aside0 (shard_staged.j0 kq x15_1 a0_0 a0_1 a0_2 a0_3 a0_4 a0_5 a0_6 a0_7 = some r) ∧ Aside0 (kq ≤ k) ∧ Aside0 (wc.heap[gb199]? = some (.cells #[.int .u32 a0_0, .string a0_1, .int .i64 a0_2, .string a0_3, .int .u64 a0_4, .string a0_5, .int .i64 a0_6, .int .i64 a0_7] 28 (0, 0))) ∧ Aside0 (Below w.heap.size w wc))
  case first =>
    have H := HC2.out
    clear HC2
    by_cases c4 : a0_2 < 4
    · rw [if_pos c4] at H
      have c4b0 : decide (a0_2 < 4) = true := decide_eq_true c4
      clear c4
      (first | rw [c4b0] | (simp only [i64_w, i32_w]; rw [c4b0]) | skip)
      by_cases c5 : a0_6 = 0
      · rw [if_pos c5] at H
        have c5b0 : (a0_6 == 0) = true := beq_iff_eq.mpr c5
        have c5b1 : (a0_6 != 0) = false := bne_eq_false_iff_eq.mpr c5
        clear c5
        have H' := Aside0.mk H
        clear H
        have hcz6_0 : w3.cell? ⟨gb199, 0, none⟩ = some (.int .u32 a0_0) := (blk_cell BK199.out 0).trans rfl
        have hcz6_1 : w3.cell? ⟨gb199, 1, none⟩ = some (.string a0_1) := (blk_cell BK199.out 1).trans rfl
        have hcz6_2 : w3.cell? ⟨gb199, 2, none⟩ = some (.int .i64 a0_2) := (blk_cell BK199.out 2).trans rfl
        have hcz6_3 : w3.cell? ⟨gb199, 3, none⟩ = some (.string a0_3) := (blk_cell BK199.out 3).trans rfl
        have hcz6_4 : w3.cell? ⟨gb199, 4, none⟩ = some (.int .u64 a0_4) := (blk_cell BK199.out 4).trans rfl
        have hcz6_5 : w3.cell? ⟨gb199, 5, none⟩ = some (.string a0_5) := (blk_cell BK199.out 5).trans rfl
        have hcz6_6 : w3.cell? ⟨gb199, 6, none⟩ = some (.int .i64 a0_6) := (blk_cell BK199.out 6).trans rfl
        have hcz6_7 : w3.cell? ⟨gb199, 7, none⟩ = some (.int .i64 a0_7) := (blk_cell BK199.out 7).trans rfl
        have hfz6_0 := blk_frozen BK199.out 0
        have hfz6_1 := blk_frozen BK199.out 1
        have hfz6_2 := blk_frozen BK199.out 2
        have hfz6_3 := blk_frozen BK199.out 3
        have hfz6_4 := blk_frozen BK199.out 4
        have hfz6_5 := blk_frozen BK199.out 5
        have hfz6_6 := blk_frozen BK199.out 6
        have hfz6_7 := blk_frozen BK199.out 7
        go_wp2
        go_meet
        case rel => exact ⟨_, ((a0_7 != 0)), (by first | rfl | (simp; done) | (simp [*]; done)), H', ⟨by first | omega | exact Nat.le_refl _⟩, ⟨by (with_reducible repeat (first | refine blk_drewN ?_ _ | refine blk_drew ?_ | refine blk_alloc ?_ _)); exact BK199.out⟩, ⟨by repeat (first | (with_reducible first | exact HB.out | apply below_alloc | apply pw_below_drewN | apply below_drew1 | refine below_set ?_ GE199.out) | exact HB.out)⟩⟩
      · rw [if_neg c5] at H
        have c5b0 : (a0_6 == 0) = false := beq_eq_false_iff_ne.mpr c5
        have c5b1 : (a0_6 != 0) = true := bne_iff_ne.mpr c5
        have H' := Aside0.mk H
        clear H
        have hcz7_0 : w3.cell? ⟨gb199, 0, none⟩ = some (.int .u32 a0_0) := (blk_cell BK199.out 0).trans rfl
        have hcz7_1 : w3.cell? ⟨gb199, 1, none⟩ = some (.string a0_1) := (blk_cell BK199.out 1).trans rfl
        have hcz7_2 : w3.cell? ⟨gb199, 2, none⟩ = some (.int .i64 a0_2) := (blk_cell BK199.out 2).trans rfl
        have hcz7_3 : w3.cell? ⟨gb199, 3, none⟩ = some (.string a0_3) := (blk_cell BK199.out 3).trans rfl
        have hcz7_4 : w3.cell? ⟨gb199, 4, none⟩ = some (.int .u64 a0_4) := (blk_cell BK199.out 4).trans rfl
        have hcz7_5 : w3.cell? ⟨gb199, 5, none⟩ = some (.string a0_5) := (blk_cell BK199.out 5).trans rfl
        have hcz7_6 : w3.cell? ⟨gb199, 6, none⟩ = some (.int .i64 a0_6) := (blk_cell BK199.out 6).trans rfl
        have hcz7_7 : w3.cell? ⟨gb199, 7, none⟩ = some (.int .i64 a0_7) := (blk_cell BK199.out 7).trans rfl
        have hfz7_0 := blk_frozen BK199.out 0
        have hfz7_1 := blk_frozen BK199.out 1
        have hfz7_2 := blk_frozen BK199.out 2
        have hfz7_3 := blk_frozen BK199.out 3
        have hfz7_4 := blk_frozen BK199.out 4
        have hfz7_5 := blk_frozen BK199.out 5
        have hfz7_6 := blk_frozen BK199.out 6
        have hfz7_7 := blk_frozen BK199.out 7
        go_wp2
        go_meet
        case rel => exact ⟨_, (true), (by first | rfl | (simp; done) | (simp [*]; done)), H', ⟨by first | omega | exact Nat.le_refl _⟩, ⟨by (with_reducible repeat (first | refine blk_drewN ?_ _ | refine blk_drew ?_ | refine blk_alloc ?_ _)); exact BK199.out⟩, ⟨by repeat (first | (with_reducible first | exact HB.out | apply below_alloc | apply pw_below_drewN | apply below_drew1 | refine below_set ?_ GE199.out) | exact HB.out)⟩⟩
    · rw [if_neg c4] at H
      have c4b0 : decide (a0_2 < 4) = false := decide_eq_false c4
      clear c4
      (first | rw [c4b0] | (simp only [i64_w, i32_w]; rw [c4b0]) | skip)
      have H' := Aside0.mk H
      clear H
      have hcz8_0 : w3.cell? ⟨gb199, 0, none⟩ = some (.int .u32 a0_0) := (blk_cell BK199.out 0).trans rfl
      have hcz8_1 : w3.cell? ⟨gb199, 1, none⟩ = some (.string a0_1) := (blk_cell BK199.out 1).trans rfl
      have hcz8_2 : w3.cell? ⟨gb199, 2, none⟩ = some (.int .i64 a0_2) := (blk_cell BK199.out 2).trans rfl
      have hcz8_3 : w3.cell? ⟨gb199, 3, none⟩ = some (.string a0_3) := (blk_cell BK199.out 3).trans rfl
      have hcz8_4 : w3.cell? ⟨gb199, 4, none⟩ = some (.int .u64 a0_4) := (blk_cell BK199.out 4).trans rfl
      have hcz8_5 : w3.cell? ⟨gb199, 5, none⟩ = some (.string a0_5) := (blk_cell BK199.out 5).trans rfl
      have hcz8_6 : w3.cell? ⟨gb199, 6, none⟩ = some (.int .i64 a0_6) := (blk_cell BK199.out 6).trans rfl
      have hcz8_7 : w3.cell? ⟨gb199, 7, none⟩ = some (.int .i64 a0_7) := (blk_cell BK199.out 7).trans rfl
      have hfz8_0 := blk_frozen BK199.out 0
      have hfz8_1 := blk_frozen BK199.out 1
      have hfz8_2 := blk_frozen BK199.out 2
      have hfz8_3 := blk_frozen BK199.out 3
      have hfz8_4 := blk_frozen BK199.out 4
      have hfz8_5 := blk_frozen BK199.out 5
      have hfz8_6 := blk_frozen BK199.out 6
      have hfz8_7 := blk_frozen BK199.out 7
      go_wp2
      go_meet
      case rel => exact ⟨_, (false), (by first | rfl | (simp; done) | (simp [*]; done)), H', ⟨by first | omega | exact Nat.le_refl _⟩, ⟨by (with_reducible repeat (first | refine blk_drewN ?_ _ | refine blk_drew ?_ | refine blk_alloc ?_ _)); exact BK199.out⟩, ⟨by repeat (first | (with_reducible first | exact HB.out | apply below_alloc | apply pw_below_drewN | apply below_drew1 | refine below_set ?_ GE199.out) | exact HB.out)⟩⟩
  case rest =>
    clear HC2
    try clear p2
    try clear c4
    try clear c4b0
    try clear c5
    try clear c5b0
    try clear c5b1
    try clear hcz6_0
    try clear hcz6_1
    try clear hcz6_2
    try clear hcz6_3
    try clear hcz6_4
    try clear hcz6_5
    try clear hcz6_6
    try clear hcz6_7
    try clear hcz7_0
    try clear hcz7_1
    try clear hcz7_2
    try clear hcz7_3
    try clear hcz7_4
    try clear hcz7_5
    try clear hcz7_6
    try clear hcz7_7
    try clear hcz8_0
    try clear hcz8_1
    try clear hcz8_2
    try clear hcz8_3
    try clear hcz8_4
    try clear hcz8_5
    try clear hcz8_6
    try clear hcz8_7
    try clear hfz6_0
    try clear hfz6_1
    try clear hfz6_2
    try clear hfz6_3
    try clear hfz6_4
    try clear hfz6_5
    try clear hfz6_6
    try clear hfz6_7
    try clear hfz7_0
    try clear hfz7_1
    try clear hfz7_2
    try clear hfz7_3
    try clear hfz7_4
    try clear hfz7_5
    try clear hfz7_6
    try clear hfz7_7
    try clear hfz8_0
    try clear hfz8_1
    try clear hfz8_2
    try clear hfz8_3
    try clear hfz8_4
    try clear hfz8_5
    try clear hfz8_6
    try clear hfz8_7
    obtain ⟨kq, x15_1, rfl, HA, HJ1, BK199, HB⟩ := hcut
    cases kq with
    | zero => exact absurd HA.out (by simp [shard_staged.j0])
    | succ kj1 =>
      have H := HA.out
      clear HA
      simp only [shard_staged.j0] at H
      by_cases c9 : x15_1 = true
      · subst c9
        have H1 : (some false) = some r := by rw [if_pos rfl] at H; exact H
        clear H
        have H := H1
        clear H1
        obtain rfl := Option.some.inj H
        go_wp2
        go_ret
        exact ⟨by first | rfl | (simp [errW_none, errW_some] <;> rfl) | (simp [*, errW_none, errW_some] <;> rfl), by repeat (first | (with_reducible first | exact HB.out | apply below_alloc | apply pw_below_drewN | apply below_drew1 | refine below_set ?_ GE199.out) | exact HB.out)⟩
      · replace c9 := Bool.eq_false_iff.mpr c9
        subst c9
        have H1 : (if a0_2 = 1 then (some (a0_5.toList == ([] : List UInt8))) else (if a0_2 = 2 then (some (a0_5.toList == ([48, 48] : List UInt8))) else (if a0_2 = 3 then (if a0_5.toList = ([48, 48] : List UInt8) then (some false) else ((field_Right.f kj1 39 a0_5).bind fun t200 => (some t200))) else (if a0_2 = 4 then ((field_Right.f kj1 39 a0_5).bind fun t201 => (if t201 = true then (if a0_6 ≥ 0 then (if a0_6 ≤ 16 then (if a0_7 = 1 then (some true) else (some (a0_7 == 2))) else (some false)) else (some false)) else (some false))) else (if a0_2 = 5 then ((field_Right.f kj1 39 a0_5).bind fun t202 => (if t202 = true then (if a0_6 ≥ 0 then (if a0_6 ≤ 16 then (if a0_7 = 1 then (some true) else (some (a0_7 == 2))) else (some false)) else (some false)) else (some false))) else (if a0_2 = 6 then ((field_Right.f kj1 39 a0_5).bind fun t203 => (if t203 = true then (if a0_6 ≥ 0 then (if a0_6 ≤ 16 then (if a0_7 = 1 then (some true) else (some (a0_7 == 2))) else (some false)) else (some false)) else (some false))) else (some false))))))) = some r := by rw [if_neg (show ¬ (false = true) by decide)] at H; exact H
        clear H
        have H := H1
        clear H1
        by_cases c10 : a0_2 = 1
        · rw [if_pos c10] at H
          have c10b0 : (a0_2 == 1) = true := beq_iff_eq.mpr c10
          have c10b1 : (a0_2 != 1) = false := bne_eq_false_iff_eq.mpr c10
          clear c10
          obtain rfl := Option.some.inj H
          have hcz11_0 : wc.cell? ⟨gb199, 0, none⟩ = some (.int .u32 a0_0) := (blk_cell BK199.out 0).trans rfl
          have hcz11_1 : wc.cell? ⟨gb199, 1, none⟩ = some (.string a0_1) := (blk_cell BK199.out 1).trans rfl
          have hcz11_2 : wc.cell? ⟨gb199, 2, none⟩ = some (.int .i64 a0_2) := (blk_cell BK199.out 2).trans rfl
          have hcz11_3 : wc.cell? ⟨gb199, 3, none⟩ = some (.string a0_3) := (blk_cell BK199.out 3).trans rfl
          have hcz11_4 : wc.cell? ⟨gb199, 4, none⟩ = some (.int .u64 a0_4) := (blk_cell BK199.out 4).trans rfl
          have hcz11_5 : wc.cell? ⟨gb199, 5, none⟩ = some (.string a0_5) := (blk_cell BK199.out 5).trans rfl
          have hcz11_6 : wc.cell? ⟨gb199, 6, none⟩ = some (.int .i64 a0_6) := (blk_cell BK199.out 6).trans rfl
          have hcz11_7 : wc.cell? ⟨gb199, 7, none⟩ = some (.int .i64 a0_7) := (blk_cell BK199.out 7).trans rfl
          have hfz11_0 := blk_frozen BK199.out 0
          have hfz11_1 := blk_frozen BK199.out 1
          have hfz11_2 := blk_frozen BK199.out 2
          have hfz11_3 := blk_frozen BK199.out 3
          have hfz11_4 := blk_frozen BK199.out 4
          have hfz11_5 := blk_frozen BK199.out 5
          have hfz11_6 := blk_frozen BK199.out 6
          have hfz11_7 := blk_frozen BK199.out 7
          go_wp2
          go_ret
          exact ⟨by first | rfl | (simp [errW_none, errW_some] <;> rfl) | (simp [*, errW_none, errW_some] <;> rfl), by repeat (first | (with_reducible first | exact HB.out | apply below_alloc | apply pw_below_drewN | apply below_drew1 | refine below_set ?_ GE199.out) | exact HB.out)⟩
        · rw [if_neg c10] at H
          have c10b0 : (a0_2 == 1) = false := beq_eq_false_iff_ne.mpr c10
          have c10b1 : (a0_2 != 1) = true := bne_iff_ne.mpr c10
          by_cases c12 : a0_2 = 2
          · rw [if_pos c12] at H
            have c12b0 : (a0_2 == 2) = true := beq_iff_eq.mpr c12
            have c12b1 : (a0_2 != 2) = false := bne_eq_false_iff_eq.mpr c12
            clear c12
            obtain rfl := Option.some.inj H
            have hcz13_0 : wc.cell? ⟨gb199, 0, none⟩ = some (.int .u32 a0_0) := (blk_cell BK199.out 0).trans rfl
            have hcz13_1 : wc.cell? ⟨gb199, 1, none⟩ = some (.string a0_1) := (blk_cell BK199.out 1).trans rfl
            have hcz13_2 : wc.cell? ⟨gb199, 2, none⟩ = some (.int .i64 a0_2) := (blk_cell BK199.out 2).trans rfl
            have hcz13_3 : wc.cell? ⟨gb199, 3, none⟩ = some (.string a0_3) := (blk_cell BK199.out 3).trans rfl
            have hcz13_4 : wc.cell? ⟨gb199, 4, none⟩ = some (.int .u64 a0_4) := (blk_cell BK199.out 4).trans rfl
            have hcz13_5 : wc.cell? ⟨gb199, 5, none⟩ = some (.string a0_5) := (blk_cell BK199.out 5).trans rfl
            have hcz13_6 : wc.cell? ⟨gb199, 6, none⟩ = some (.int .i64 a0_6) := (blk_cell BK199.out 6).trans rfl
            have hcz13_7 : wc.cell? ⟨gb199, 7, none⟩ = some (.int .i64 a0_7) := (blk_cell BK199.out 7).trans rfl
            have hfz13_0 := blk_frozen BK199.out 0
            have hfz13_1 := blk_frozen BK199.out 1
            have hfz13_2 := blk_frozen BK199.out 2
            have hfz13_3 := blk_frozen BK199.out 3
            have hfz13_4 := blk_frozen BK199.out 4
            have hfz13_5 := blk_frozen BK199.out 5
            have hfz13_6 := blk_frozen BK199.out 6
            have hfz13_7 := blk_frozen BK199.out 7
            go_wp2
            go_ret
            exact ⟨by first | rfl | (simp [errW_none, errW_some] <;> rfl) | (simp [*, errW_none, errW_some] <;> rfl), by repeat (first | (with_reducible first | exact HB.out | apply below_alloc | apply pw_below_drewN | apply below_drew1 | refine below_set ?_ GE199.out) | exact HB.out)⟩
          · rw [if_neg c12] at H
            have c12b0 : (a0_2 == 2) = false := beq_eq_false_iff_ne.mpr c12
            have c12b1 : (a0_2 != 2) = true := bne_iff_ne.mpr c12
            by_cases c14 : a0_2 = 3
            · rw [if_pos c14] at H
              have c14b0 : (a0_2 == 3) = true := beq_iff_eq.mpr c14
              have c14b1 : (a0_2 != 3) = false := bne_eq_false_iff_eq.mpr c14
              clear c14
              by_cases c15 : a0_5.toList = ([48, 48] : List UInt8)
              · rw [if_pos c15] at H
                have c15b0 : (a0_5.toList == ([48, 48] : List UInt8)) = true := beq_iff_eq.mpr c15
                have c15b1 : (a0_5.toList != ([48, 48] : List UInt8)) = false := bne_eq_false_iff_eq.mpr c15
                clear c15
                obtain rfl := Option.some.inj H
                have hcz16_0 : wc.cell? ⟨gb199, 0, none⟩ = some (.int .u32 a0_0) := (blk_cell BK199.out 0).trans rfl
                have hcz16_1 : wc.cell? ⟨gb199, 1, none⟩ = some (.string a0_1) := (blk_cell BK199.out 1).trans rfl
                have hcz16_2 : wc.cell? ⟨gb199, 2, none⟩ = some (.int .i64 a0_2) := (blk_cell BK199.out 2).trans rfl
                have hcz16_3 : wc.cell? ⟨gb199, 3, none⟩ = some (.string a0_3) := (blk_cell BK199.out 3).trans rfl
                have hcz16_4 : wc.cell? ⟨gb199, 4, none⟩ = some (.int .u64 a0_4) := (blk_cell BK199.out 4).trans rfl
                have hcz16_5 : wc.cell? ⟨gb199, 5, none⟩ = some (.string a0_5) := (blk_cell BK199.out 5).trans rfl
                have hcz16_6 : wc.cell? ⟨gb199, 6, none⟩ = some (.int .i64 a0_6) := (blk_cell BK199.out 6).trans rfl
                have hcz16_7 : wc.cell? ⟨gb199, 7, none⟩ = some (.int .i64 a0_7) := (blk_cell BK199.out 7).trans rfl
                have hfz16_0 := blk_frozen BK199.out 0
                have hfz16_1 := blk_frozen BK199.out 1
                have hfz16_2 := blk_frozen BK199.out 2
                have hfz16_3 := blk_frozen BK199.out 3
                have hfz16_4 := blk_frozen BK199.out 4
                have hfz16_5 := blk_frozen BK199.out 5
                have hfz16_6 := blk_frozen BK199.out 6
                have hfz16_7 := blk_frozen BK199.out 7
                go_wp2
                go_ret
                exact ⟨by first | rfl | (simp [errW_none, errW_some] <;> rfl) | (simp [*, errW_none, errW_some] <;> rfl), by repeat (first | (with_reducible first | exact HB.out | apply below_alloc | apply pw_below_drewN | apply below_drew1 | refine below_set ?_ GE199.out) | exact HB.out)⟩
              · rw [if_neg c15] at H
                have c15b0 : (a0_5.toList == ([48, 48] : List UInt8)) = false := beq_eq_false_iff_ne.mpr c15
                have c15b1 : (a0_5.toList != ([48, 48] : List UInt8)) = true := bne_iff_ne.mpr c15
                replace H := Option.bind_eq_some_iff.mp H
                obtain ⟨t200, A170, H⟩ := H
                replace H : (some t200) = some r := H
                have A17 := Aside0.mk A170
                clear A170
                obtain rfl := Option.some.inj H
                have hcz18_0 : wc.cell? ⟨gb199, 0, none⟩ = some (.int .u32 a0_0) := (blk_cell BK199.out 0).trans rfl
                have hcz18_1 : wc.cell? ⟨gb199, 1, none⟩ = some (.string a0_1) := (blk_cell BK199.out 1).trans rfl
                have hcz18_2 : wc.cell? ⟨gb199, 2, none⟩ = some (.int .i64 a0_2) := (blk_cell BK199.out 2).trans rfl
                have hcz18_3 : wc.cell? ⟨gb199, 3, none⟩ = some (.string a0_3) := (blk_cell BK199.out 3).trans rfl
                have hcz18_4 : wc.cell? ⟨gb199, 4, none⟩ = some (.int .u64 a0_4) := (blk_cell BK199.out 4).trans rfl
                have hcz18_5 : wc.cell? ⟨gb199, 5, none⟩ = some (.string a0_5) := (blk_cell BK199.out 5).trans rfl
                have hcz18_6 : wc.cell? ⟨gb199, 6, none⟩ = some (.int .i64 a0_6) := (blk_cell BK199.out 6).trans rfl
                have hcz18_7 : wc.cell? ⟨gb199, 7, none⟩ = some (.int .i64 a0_7) := (blk_cell BK199.out 7).trans rfl
                have hfz18_0 := blk_frozen BK199.out 0
                have hfz18_1 := blk_frozen BK199.out 1
                have hfz18_2 := blk_frozen BK199.out 2
                have hfz18_3 := blk_frozen BK199.out 3
                have hfz18_4 := blk_frozen BK199.out 4
                have hfz18_5 := blk_frozen BK199.out 5
                have hfz18_6 := blk_frozen BK199.out 6
                have hfz18_7 := blk_frozen BK199.out 7
                go_wp2_with (first | (go_at_call 46; (with_reducible refine (field_Right.calls kj1 39 a0_5 t200 _ A17.out).mono ?_); rintro e w19 ⟨rfl, hb⟩; have n0_ := Aside0.mk (blk_below (g := gb199) (o := .cells #[.int .u32 a0_0, .string a0_1, .int .i64 a0_2, .string a0_3, .int .u64 a0_4, .string a0_5, .int .i64 a0_6, .int .i64 a0_7] 28 (0, 0)) (by (with_reducible repeat (first | refine blk_drewN ?_ _ | refine blk_drew ?_ | refine blk_alloc ?_ _)); exact BK199.out) hb); have n1_ := Aside0.mk (below_step (by repeat (first | (with_reducible first | exact HB.out | apply below_alloc | apply pw_below_drewN | apply below_drew1 | refine below_set ?_ GE199.out) | exact HB.out)) hb); clear BK199; clear HB; have BK199 := n0_; have HB := n1_; clear n0_ n1_; (try clear hb); (try clear hb2); (try clear hk); (try clear hi)))
                go_ret
                exact ⟨by first | rfl | (simp [errW_none, errW_some] <;> rfl) | (simp [*, errW_none, errW_some] <;> rfl), by repeat (first | (with_reducible first | exact HB.out | apply below_alloc | apply pw_below_drewN | apply below_drew1 | refine below_set ?_ GE199.out) | exact HB.out)⟩
            · rw [if_neg c14] at H
              have c14b0 : (a0_2 == 3) = false := beq_eq_false_iff_ne.mpr c14
              have c14b1 : (a0_2 != 3) = true := bne_iff_ne.mpr c14
              by_cases c20 : a0_2 = 4
              · rw [if_pos c20] at H
                have c20b0 : (a0_2 == 4) = true := beq_iff_eq.mpr c20
                have c20b1 : (a0_2 != 4) = false := bne_eq_false_iff_eq.mpr c20
                clear c20
                replace H := Option.bind_eq_some_iff.mp H
                obtain ⟨t201, A210, H⟩ := H
                replace H : (if t201 = true then (if a0_6 ≥ 0 then (if a0_6 ≤ 16 then (if a0_7 = 1 then (some true) else (some (a0_7 == 2))) else (some false)) else (some false)) else (some false)) = some r := H
                have A21 := Aside0.mk A210
                clear A210
                by_cases c22 : t201 = true
                · subst c22
                  have H1 : (if a0_6 ≥ 0 then (if a0_6 ≤ 16 then (if a0_7 = 1 then (some true) else (some (a0_7 == 2))) else (some false)) else (some false)) = some r := by rw [if_pos rfl] at H; exact H
                  clear H
                  have H := H1
                  clear H1
                  by_cases c23 : a0_6 ≥ 0
                  · rw [if_pos c23] at H
                    have c23b0 : decide (0 ≤ a0_6) = true := decide_eq_true c23
                    clear c23
                    by_cases c24 : a0_6 ≤ 16
                    · rw [if_pos c24] at H
                      have c24b0 : decide (a0_6 ≤ 16) = true := decide_eq_true c24
                      clear c24
                      by_cases c25 : a0_7 = 1
                      · rw [if_pos c25] at H
                        have c25b0 : (a0_7 == 1) = true := beq_iff_eq.mpr c25
                        have c25b1 : (a0_7 != 1) = false := bne_eq_false_iff_eq.mpr c25
                        clear c25
                        obtain rfl := Option.some.inj H
                        have hcz26_0 : wc.cell? ⟨gb199, 0, none⟩ = some (.int .u32 a0_0) := (blk_cell BK199.out 0).trans rfl
                        have hcz26_1 : wc.cell? ⟨gb199, 1, none⟩ = some (.string a0_1) := (blk_cell BK199.out 1).trans rfl
                        have hcz26_2 : wc.cell? ⟨gb199, 2, none⟩ = some (.int .i64 a0_2) := (blk_cell BK199.out 2).trans rfl
                        have hcz26_3 : wc.cell? ⟨gb199, 3, none⟩ = some (.string a0_3) := (blk_cell BK199.out 3).trans rfl
                        have hcz26_4 : wc.cell? ⟨gb199, 4, none⟩ = some (.int .u64 a0_4) := (blk_cell BK199.out 4).trans rfl
                        have hcz26_5 : wc.cell? ⟨gb199, 5, none⟩ = some (.string a0_5) := (blk_cell BK199.out 5).trans rfl
                        have hcz26_6 : wc.cell? ⟨gb199, 6, none⟩ = some (.int .i64 a0_6) := (blk_cell BK199.out 6).trans rfl
                        have hcz26_7 : wc.cell? ⟨gb199, 7, none⟩ = some (.int .i64 a0_7) := (blk_cell BK199.out 7).trans rfl
                        have hfz26_0 := blk_frozen BK199.out 0
                        have hfz26_1 := blk_frozen BK199.out 1
                        have hfz26_2 := blk_frozen BK199.out 2
                        have hfz26_3 := blk_frozen BK199.out 3
                        have hfz26_4 := blk_frozen BK199.out 4
                        have hfz26_5 := blk_frozen BK199.out 5
                        have hfz26_6 := blk_frozen BK199.out 6
                        have hfz26_7 := blk_frozen BK199.out 7
                        go_wp2_with (first | ((with_reducible refine gate_callee (f := 46) rfl ?_); refine goesL_ (some 44) rfl rfl Tryd.func46 (by kernel_rfl) rfl #[.int .i64 39, .string a0_5] rfl (by (try simp only [List.map_toArray, List.map_cons, List.map_nil]); first | done | rfl | (simp only [List.length_drop, List.length_take]; rfl)) ?_; (with_reducible refine (field_Right.calls kj1 39 a0_5 true _ A21.out).mono ?_); rintro e w27 ⟨rfl, hb⟩; refine ⟨_, rfl, ?_⟩; have n0_ := Aside0.mk (blk_below (g := gb199) (o := .cells #[.int .u32 a0_0, .string a0_1, .int .i64 a0_2, .string a0_3, .int .u64 a0_4, .string a0_5, .int .i64 a0_6, .int .i64 a0_7] 28 (0, 0)) (by (with_reducible repeat (first | refine blk_drewN ?_ _ | refine blk_drew ?_ | refine blk_alloc ?_ _)); exact BK199.out) hb); have n1_ := Aside0.mk (below_step (by repeat (first | (with_reducible first | exact HB.out | apply below_alloc | apply pw_below_drewN | apply below_drew1 | refine below_set ?_ GE199.out) | exact HB.out)) hb); clear BK199; clear HB; have BK199 := n0_; have HB := n1_; clear n0_ n1_; (try clear hb); (try clear hb2); (try clear hk); (try clear hi); have hcz28_0 : w27.cell? ⟨gb199, 0, none⟩ = some (.int .u32 a0_0) := (blk_cell BK199.out 0).trans rfl; have hcz28_1 : w27.cell? ⟨gb199, 1, none⟩ = some (.string a0_1) := (blk_cell BK199.out 1).trans rfl; have hcz28_2 : w27.cell? ⟨gb199, 2, none⟩ = some (.int .i64 a0_2) := (blk_cell BK199.out 2).trans rfl; have hcz28_3 : w27.cell? ⟨gb199, 3, none⟩ = some (.string a0_3) := (blk_cell BK199.out 3).trans rfl; have hcz28_4 : w27.cell? ⟨gb199, 4, none⟩ = some (.int .u64 a0_4) := (blk_cell BK199.out 4).trans rfl; have hcz28_5 : w27.cell? ⟨gb199, 5, none⟩ = some (.string a0_5) := (blk_cell BK199.out 5).trans rfl; have hcz28_6 : w27.cell? ⟨gb199, 6, none⟩ = some (.int .i64 a0_6) := (blk_cell BK199.out 6).trans rfl; have hcz28_7 : w27.cell? ⟨gb199, 7, none⟩ = some (.int .i64 a0_7) := (blk_cell BK199.out 7).trans rfl; have hfz28_0 := blk_frozen BK199.out 0; have hfz28_1 := blk_frozen BK199.out 1; have hfz28_2 := blk_frozen BK199.out 2; have hfz28_3 := blk_frozen BK199.out 3; have hfz28_4 := blk_frozen BK199.out 4; have hfz28_5 := blk_frozen BK199.out 5; have hfz28_6 := blk_frozen BK199.out 6; have hfz28_7 := blk_frozen BK199.out 7))
                        go_ret
                        exact ⟨by first | rfl | (simp [errW_none, errW_some] <;> rfl) | (simp [*, errW_none, errW_some] <;> rfl), by repeat (first | (with_reducible first | exact HB.out | apply below_alloc | apply pw_below_drewN | apply below_drew1 | refine below_set ?_ GE199.out) | exact HB.out)⟩
                      · rw [if_neg c25] at H
                        have c25b0 : (a0_7 == 1) = false := beq_eq_false_iff_ne.mpr c25
                        have c25b1 : (a0_7 != 1) = true := bne_iff_ne.mpr c25
                        obtain rfl := Option.some.inj H
                        have hcz29_0 : wc.cell? ⟨gb199, 0, none⟩ = some (.int .u32 a0_0) := (blk_cell BK199.out 0).trans rfl
                        have hcz29_1 : wc.cell? ⟨gb199, 1, none⟩ = some (.string a0_1) := (blk_cell BK199.out 1).trans rfl
                        have hcz29_2 : wc.cell? ⟨gb199, 2, none⟩ = some (.int .i64 a0_2) := (blk_cell BK199.out 2).trans rfl
                        have hcz29_3 : wc.cell? ⟨gb199, 3, none⟩ = some (.string a0_3) := (blk_cell BK199.out 3).trans rfl
                        have hcz29_4 : wc.cell? ⟨gb199, 4, none⟩ = some (.int .u64 a0_4) := (blk_cell BK199.out 4).trans rfl
                        have hcz29_5 : wc.cell? ⟨gb199, 5, none⟩ = some (.string a0_5) := (blk_cell BK199.out 5).trans rfl
                        have hcz29_6 : wc.cell? ⟨gb199, 6, none⟩ = some (.int .i64 a0_6) := (blk_cell BK199.out 6).trans rfl
                        have hcz29_7 : wc.cell? ⟨gb199, 7, none⟩ = some (.int .i64 a0_7) := (blk_cell BK199.out 7).trans rfl
                        have hfz29_0 := blk_frozen BK199.out 0
                        have hfz29_1 := blk_frozen BK199.out 1
                        have hfz29_2 := blk_frozen BK199.out 2
                        have hfz29_3 := blk_frozen BK199.out 3
                        have hfz29_4 := blk_frozen BK199.out 4
                        have hfz29_5 := blk_frozen BK199.out 5
                        have hfz29_6 := blk_frozen BK199.out 6
                        have hfz29_7 := blk_frozen BK199.out 7
                        go_wp2_with (first | ((with_reducible refine gate_callee (f := 46) rfl ?_); refine goesL_ (some 44) rfl rfl Tryd.func46 (by kernel_rfl) rfl #[.int .i64 39, .string a0_5] rfl (by (try simp only [List.map_toArray, List.map_cons, List.map_nil]); first | done | rfl | (simp only [List.length_drop, List.length_take]; rfl)) ?_; (with_reducible refine (field_Right.calls kj1 39 a0_5 true _ A21.out).mono ?_); rintro e w30 ⟨rfl, hb⟩; refine ⟨_, rfl, ?_⟩; have n0_ := Aside0.mk (blk_below (g := gb199) (o := .cells #[.int .u32 a0_0, .string a0_1, .int .i64 a0_2, .string a0_3, .int .u64 a0_4, .string a0_5, .int .i64 a0_6, .int .i64 a0_7] 28 (0, 0)) (by (with_reducible repeat (first | refine blk_drewN ?_ _ | refine blk_drew ?_ | refine blk_alloc ?_ _)); exact BK199.out) hb); have n1_ := Aside0.mk (below_step (by repeat (first | (with_reducible first | exact HB.out | apply below_alloc | apply pw_below_drewN | apply below_drew1 | refine below_set ?_ GE199.out) | exact HB.out)) hb); clear BK199; clear HB; have BK199 := n0_; have HB := n1_; clear n0_ n1_; (try clear hb); (try clear hb2); (try clear hk); (try clear hi); have hcz31_0 : w30.cell? ⟨gb199, 0, none⟩ = some (.int .u32 a0_0) := (blk_cell BK199.out 0).trans rfl; have hcz31_1 : w30.cell? ⟨gb199, 1, none⟩ = some (.string a0_1) := (blk_cell BK199.out 1).trans rfl; have hcz31_2 : w30.cell? ⟨gb199, 2, none⟩ = some (.int .i64 a0_2) := (blk_cell BK199.out 2).trans rfl; have hcz31_3 : w30.cell? ⟨gb199, 3, none⟩ = some (.string a0_3) := (blk_cell BK199.out 3).trans rfl; have hcz31_4 : w30.cell? ⟨gb199, 4, none⟩ = some (.int .u64 a0_4) := (blk_cell BK199.out 4).trans rfl; have hcz31_5 : w30.cell? ⟨gb199, 5, none⟩ = some (.string a0_5) := (blk_cell BK199.out 5).trans rfl; have hcz31_6 : w30.cell? ⟨gb199, 6, none⟩ = some (.int .i64 a0_6) := (blk_cell BK199.out 6).trans rfl; have hcz31_7 : w30.cell? ⟨gb199, 7, none⟩ = some (.int .i64 a0_7) := (blk_cell BK199.out 7).trans rfl; have hfz31_0 := blk_frozen BK199.out 0; have hfz31_1 := blk_frozen BK199.out 1; have hfz31_2 := blk_frozen BK199.out 2; have hfz31_3 := blk_frozen BK199.out 3; have hfz31_4 := blk_frozen BK199.out 4; have hfz31_5 := blk_frozen BK199.out 5; have hfz31_6 := blk_frozen BK199.out 6; have hfz31_7 := blk_frozen BK199.out 7))
                        go_ret
                        exact ⟨by first | rfl | (simp [errW_none, errW_some] <;> rfl) | (simp [*, errW_none, errW_some] <;> rfl), by repeat (first | (with_reducible first | exact HB.out | apply below_alloc | apply pw_below_drewN | apply below_drew1 | refine below_set ?_ GE199.out) | exact HB.out)⟩
                    · rw [if_neg c24] at H
                      have c24b0 : decide (a0_6 ≤ 16) = false := decide_eq_false c24
                      clear c24
                      obtain rfl := Option.some.inj H
                      have hcz32_0 : wc.cell? ⟨gb199, 0, none⟩ = some (.int .u32 a0_0) := (blk_cell BK199.out 0).trans rfl
                      have hcz32_1 : wc.cell? ⟨gb199, 1, none⟩ = some (.string a0_1) := (blk_cell BK199.out 1).trans rfl
                      have hcz32_2 : wc.cell? ⟨gb199, 2, none⟩ = some (.int .i64 a0_2) := (blk_cell BK199.out 2).trans rfl
                      have hcz32_3 : wc.cell? ⟨gb199, 3, none⟩ = some (.string a0_3) := (blk_cell BK199.out 3).trans rfl
                      have hcz32_4 : wc.cell? ⟨gb199, 4, none⟩ = some (.int .u64 a0_4) := (blk_cell BK199.out 4).trans rfl
                      have hcz32_5 : wc.cell? ⟨gb199, 5, none⟩ = some (.string a0_5) := (blk_cell BK199.out 5).trans rfl
                      have hcz32_6 : wc.cell? ⟨gb199, 6, none⟩ = some (.int .i64 a0_6) := (blk_cell BK199.out 6).trans rfl
                      have hcz32_7 : wc.cell? ⟨gb199, 7, none⟩ = some (.int .i64 a0_7) := (blk_cell BK199.out 7).trans rfl
                      have hfz32_0 := blk_frozen BK199.out 0
                      have hfz32_1 := blk_frozen BK199.out 1
                      have hfz32_2 := blk_frozen BK199.out 2
                      have hfz32_3 := blk_frozen BK199.out 3
                      have hfz32_4 := blk_frozen BK199.out 4
                      have hfz32_5 := blk_frozen BK199.out 5
                      have hfz32_6 := blk_frozen BK199.out 6
                      have hfz32_7 := blk_frozen BK199.out 7
                      go_wp2_with (first | ((with_reducible refine gate_callee (f := 46) rfl ?_); refine goesL_ (some 44) rfl rfl Tryd.func46 (by kernel_rfl) rfl #[.int .i64 39, .string a0_5] rfl (by (try simp only [List.map_toArray, List.map_cons, List.map_nil]); first | done | rfl | (simp only [List.length_drop, List.length_take]; rfl)) ?_; (with_reducible refine (field_Right.calls kj1 39 a0_5 true _ A21.out).mono ?_); rintro e w33 ⟨rfl, hb⟩; refine ⟨_, rfl, ?_⟩; have n0_ := Aside0.mk (blk_below (g := gb199) (o := .cells #[.int .u32 a0_0, .string a0_1, .int .i64 a0_2, .string a0_3, .int .u64 a0_4, .string a0_5, .int .i64 a0_6, .int .i64 a0_7] 28 (0, 0)) (by (with_reducible repeat (first | refine blk_drewN ?_ _ | refine blk_drew ?_ | refine blk_alloc ?_ _)); exact BK199.out) hb); have n1_ := Aside0.mk (below_step (by repeat (first | (with_reducible first | exact HB.out | apply below_alloc | apply pw_below_drewN | apply below_drew1 | refine below_set ?_ GE199.out) | exact HB.out)) hb); clear BK199; clear HB; have BK199 := n0_; have HB := n1_; clear n0_ n1_; (try clear hb); (try clear hb2); (try clear hk); (try clear hi); have hcz34_0 : w33.cell? ⟨gb199, 0, none⟩ = some (.int .u32 a0_0) := (blk_cell BK199.out 0).trans rfl; have hcz34_1 : w33.cell? ⟨gb199, 1, none⟩ = some (.string a0_1) := (blk_cell BK199.out 1).trans rfl; have hcz34_2 : w33.cell? ⟨gb199, 2, none⟩ = some (.int .i64 a0_2) := (blk_cell BK199.out 2).trans rfl; have hcz34_3 : w33.cell? ⟨gb199, 3, none⟩ = some (.string a0_3) := (blk_cell BK199.out 3).trans rfl; have hcz34_4 : w33.cell? ⟨gb199, 4, none⟩ = some (.int .u64 a0_4) := (blk_cell BK199.out 4).trans rfl; have hcz34_5 : w33.cell? ⟨gb199, 5, none⟩ = some (.string a0_5) := (blk_cell BK199.out 5).trans rfl; have hcz34_6 : w33.cell? ⟨gb199, 6, none⟩ = some (.int .i64 a0_6) := (blk_cell BK199.out 6).trans rfl; have hcz34_7 : w33.cell? ⟨gb199, 7, none⟩ = some (.int .i64 a0_7) := (blk_cell BK199.out 7).trans rfl; have hfz34_0 := blk_frozen BK199.out 0; have hfz34_1 := blk_frozen BK199.out 1; have hfz34_2 := blk_frozen BK199.out 2; have hfz34_3 := blk_frozen BK199.out 3; have hfz34_4 := blk_frozen BK199.out 4; have hfz34_5 := blk_frozen BK199.out 5; have hfz34_6 := blk_frozen BK199.out 6; have hfz34_7 := blk_frozen BK199.out 7))
                      go_ret
                      exact ⟨by first | rfl | (simp [errW_none, errW_some] <;> rfl) | (simp [*, errW_none, errW_some] <;> rfl), by repeat (first | (with_reducible first | exact HB.out | apply below_alloc | apply pw_below_drewN | apply below_drew1 | refine below_set ?_ GE199.out) | exact HB.out)⟩
                  · rw [if_neg c23] at H
                    have c23b0 : decide (0 ≤ a0_6) = false := decide_eq_false c23
                    clear c23
                    obtain rfl := Option.some.inj H
                    have hcz35_0 : wc.cell? ⟨gb199, 0, none⟩ = some (.int .u32 a0_0) := (blk_cell BK199.out 0).trans rfl
                    have hcz35_1 : wc.cell? ⟨gb199, 1, none⟩ = some (.string a0_1) := (blk_cell BK199.out 1).trans rfl
                    have hcz35_2 : wc.cell? ⟨gb199, 2, none⟩ = some (.int .i64 a0_2) := (blk_cell BK199.out 2).trans rfl
                    have hcz35_3 : wc.cell? ⟨gb199, 3, none⟩ = some (.string a0_3) := (blk_cell BK199.out 3).trans rfl
                    have hcz35_4 : wc.cell? ⟨gb199, 4, none⟩ = some (.int .u64 a0_4) := (blk_cell BK199.out 4).trans rfl
                    have hcz35_5 : wc.cell? ⟨gb199, 5, none⟩ = some (.string a0_5) := (blk_cell BK199.out 5).trans rfl
                    have hcz35_6 : wc.cell? ⟨gb199, 6, none⟩ = some (.int .i64 a0_6) := (blk_cell BK199.out 6).trans rfl
                    have hcz35_7 : wc.cell? ⟨gb199, 7, none⟩ = some (.int .i64 a0_7) := (blk_cell BK199.out 7).trans rfl
                    have hfz35_0 := blk_frozen BK199.out 0
                    have hfz35_1 := blk_frozen BK199.out 1
                    have hfz35_2 := blk_frozen BK199.out 2
                    have hfz35_3 := blk_frozen BK199.out 3
                    have hfz35_4 := blk_frozen BK199.out 4
                    have hfz35_5 := blk_frozen BK199.out 5
                    have hfz35_6 := blk_frozen BK199.out 6
                    have hfz35_7 := blk_frozen BK199.out 7
                    go_wp2_with (first | ((with_reducible refine gate_callee (f := 46) rfl ?_); refine goesL_ (some 44) rfl rfl Tryd.func46 (by kernel_rfl) rfl #[.int .i64 39, .string a0_5] rfl (by (try simp only [List.map_toArray, List.map_cons, List.map_nil]); first | done | rfl | (simp only [List.length_drop, List.length_take]; rfl)) ?_; (with_reducible refine (field_Right.calls kj1 39 a0_5 true _ A21.out).mono ?_); rintro e w36 ⟨rfl, hb⟩; refine ⟨_, rfl, ?_⟩; have n0_ := Aside0.mk (blk_below (g := gb199) (o := .cells #[.int .u32 a0_0, .string a0_1, .int .i64 a0_2, .string a0_3, .int .u64 a0_4, .string a0_5, .int .i64 a0_6, .int .i64 a0_7] 28 (0, 0)) (by (with_reducible repeat (first | refine blk_drewN ?_ _ | refine blk_drew ?_ | refine blk_alloc ?_ _)); exact BK199.out) hb); have n1_ := Aside0.mk (below_step (by repeat (first | (with_reducible first | exact HB.out | apply below_alloc | apply pw_below_drewN | apply below_drew1 | refine below_set ?_ GE199.out) | exact HB.out)) hb); clear BK199; clear HB; have BK199 := n0_; have HB := n1_; clear n0_ n1_; (try clear hb); (try clear hb2); (try clear hk); (try clear hi); have hcz37_0 : w36.cell? ⟨gb199, 0, none⟩ = some (.int .u32 a0_0) := (blk_cell BK199.out 0).trans rfl; have hcz37_1 : w36.cell? ⟨gb199, 1, none⟩ = some (.string a0_1) := (blk_cell BK199.out 1).trans rfl; have hcz37_2 : w36.cell? ⟨gb199, 2, none⟩ = some (.int .i64 a0_2) := (blk_cell BK199.out 2).trans rfl; have hcz37_3 : w36.cell? ⟨gb199, 3, none⟩ = some (.string a0_3) := (blk_cell BK199.out 3).trans rfl; have hcz37_4 : w36.cell? ⟨gb199, 4, none⟩ = some (.int .u64 a0_4) := (blk_cell BK199.out 4).trans rfl; have hcz37_5 : w36.cell? ⟨gb199, 5, none⟩ = some (.string a0_5) := (blk_cell BK199.out 5).trans rfl; have hcz37_6 : w36.cell? ⟨gb199, 6, none⟩ = some (.int .i64 a0_6) := (blk_cell BK199.out 6).trans rfl; have hcz37_7 : w36.cell? ⟨gb199, 7, none⟩ = some (.int .i64 a0_7) := (blk_cell BK199.out 7).trans rfl; have hfz37_0 := blk_frozen BK199.out 0; have hfz37_1 := blk_frozen BK199.out 1; have hfz37_2 := blk_frozen BK199.out 2; have hfz37_3 := blk_frozen BK199.out 3; have hfz37_4 := blk_frozen BK199.out 4; have hfz37_5 := blk_frozen BK199.out 5; have hfz37_6 := blk_frozen BK199.out 6; have hfz37_7 := blk_frozen BK199.out 7))
                    go_ret
                    exact ⟨by first | rfl | (simp [errW_none, errW_some] <;> rfl) | (simp [*, errW_none, errW_some] <;> rfl), by repeat (first | (with_reducible first | exact HB.out | apply below_alloc | apply pw_below_drewN | apply below_drew1 | refine below_set ?_ GE199.out) | exact HB.out)⟩
                · replace c22 := Bool.eq_false_iff.mpr c22
                  subst c22
                  have H1 : (some false) = some r := by rw [if_neg (show ¬ (false = true) by decide)] at H; exact H
                  clear H
                  have H := H1
                  clear H1
                  obtain rfl := Option.some.inj H
                  have hcz38_0 : wc.cell? ⟨gb199, 0, none⟩ = some (.int .u32 a0_0) := (blk_cell BK199.out 0).trans rfl
                  have hcz38_1 : wc.cell? ⟨gb199, 1, none⟩ = some (.string a0_1) := (blk_cell BK199.out 1).trans rfl
                  have hcz38_2 : wc.cell? ⟨gb199, 2, none⟩ = some (.int .i64 a0_2) := (blk_cell BK199.out 2).trans rfl
                  have hcz38_3 : wc.cell? ⟨gb199, 3, none⟩ = some (.string a0_3) := (blk_cell BK199.out 3).trans rfl
                  have hcz38_4 : wc.cell? ⟨gb199, 4, none⟩ = some (.int .u64 a0_4) := (blk_cell BK199.out 4).trans rfl
                  have hcz38_5 : wc.cell? ⟨gb199, 5, none⟩ = some (.string a0_5) := (blk_cell BK199.out 5).trans rfl
                  have hcz38_6 : wc.cell? ⟨gb199, 6, none⟩ = some (.int .i64 a0_6) := (blk_cell BK199.out 6).trans rfl
                  have hcz38_7 : wc.cell? ⟨gb199, 7, none⟩ = some (.int .i64 a0_7) := (blk_cell BK199.out 7).trans rfl
                  have hfz38_0 := blk_frozen BK199.out 0
                  have hfz38_1 := blk_frozen BK199.out 1
                  have hfz38_2 := blk_frozen BK199.out 2
                  have hfz38_3 := blk_frozen BK199.out 3
                  have hfz38_4 := blk_frozen BK199.out 4
                  have hfz38_5 := blk_frozen BK199.out 5
                  have hfz38_6 := blk_frozen BK199.out 6
                  have hfz38_7 := blk_frozen BK199.out 7
                  go_wp2_with (first | ((with_reducible refine gate_callee (f := 46) rfl ?_); refine goesL_ (some 44) rfl rfl Tryd.func46 (by kernel_rfl) rfl #[.int .i64 39, .string a0_5] rfl (by (try simp only [List.map_toArray, List.map_cons, List.map_nil]); first | done | rfl | (simp only [List.length_drop, List.length_take]; rfl)) ?_; (with_reducible refine (field_Right.calls kj1 39 a0_5 false _ A21.out).mono ?_); rintro e w39 ⟨rfl, hb⟩; refine ⟨_, rfl, ?_⟩; have n0_ := Aside0.mk (blk_below (g := gb199) (o := .cells #[.int .u32 a0_0, .string a0_1, .int .i64 a0_2, .string a0_3, .int .u64 a0_4, .string a0_5, .int .i64 a0_6, .int .i64 a0_7] 28 (0, 0)) (by (with_reducible repeat (first | refine blk_drewN ?_ _ | refine blk_drew ?_ | refine blk_alloc ?_ _)); exact BK199.out) hb); have n1_ := Aside0.mk (below_step (by repeat (first | (with_reducible first | exact HB.out | apply below_alloc | apply pw_below_drewN | apply below_drew1 | refine below_set ?_ GE199.out) | exact HB.out)) hb); clear BK199; clear HB; have BK199 := n0_; have HB := n1_; clear n0_ n1_; (try clear hb); (try clear hb2); (try clear hk); (try clear hi)))
                  go_ret
                  exact ⟨by first | rfl | (simp [errW_none, errW_some] <;> rfl) | (simp [*, errW_none, errW_some] <;> rfl), by repeat (first | (with_reducible first | exact HB.out | apply below_alloc | apply pw_below_drewN | apply below_drew1 | refine below_set ?_ GE199.out) | exact HB.out)⟩
              · rw [if_neg c20] at H
                have c20b0 : (a0_2 == 4) = false := beq_eq_false_iff_ne.mpr c20
                have c20b1 : (a0_2 != 4) = true := bne_iff_ne.mpr c20
                by_cases c40 : a0_2 = 5
                · rw [if_pos c40] at H
                  have c40b0 : (a0_2 == 5) = true := beq_iff_eq.mpr c40
                  have c40b1 : (a0_2 != 5) = false := bne_eq_false_iff_eq.mpr c40
                  clear c40
                  replace H := Option.bind_eq_some_iff.mp H
                  obtain ⟨t202, A410, H⟩ := H
                  replace H : (if t202 = true then (if a0_6 ≥ 0 then (if a0_6 ≤ 16 then (if a0_7 = 1 then (some true) else (some (a0_7 == 2))) else (some false)) else (some false)) else (some false)) = some r := H
                  have A41 := Aside0.mk A410
                  clear A410
                  by_cases c42 : t202 = true
                  · subst c42
                    have H1 : (if a0_6 ≥ 0 then (if a0_6 ≤ 16 then (if a0_7 = 1 then (some true) else (some (a0_7 == 2))) else (some false)) else (some false)) = some r := by rw [if_pos rfl] at H; exact H
                    clear H
                    have H := H1
                    clear H1
                    by_cases c43 : a0_6 ≥ 0
                    · rw [if_pos c43] at H
                      have c43b0 : decide (0 ≤ a0_6) = true := decide_eq_true c43
                      clear c43
                      by_cases c44 : a0_6 ≤ 16
                      · rw [if_pos c44] at H
                        have c44b0 : decide (a0_6 ≤ 16) = true := decide_eq_true c44
                        clear c44
                        by_cases c45 : a0_7 = 1
                        · rw [if_pos c45] at H
                          have c45b0 : (a0_7 == 1) = true := beq_iff_eq.mpr c45
                          have c45b1 : (a0_7 != 1) = false := bne_eq_false_iff_eq.mpr c45
                          clear c45
                          obtain rfl := Option.some.inj H
                          have hcz46_0 : wc.cell? ⟨gb199, 0, none⟩ = some (.int .u32 a0_0) := (blk_cell BK199.out 0).trans rfl
                          have hcz46_1 : wc.cell? ⟨gb199, 1, none⟩ = some (.string a0_1) := (blk_cell BK199.out 1).trans rfl
                          have hcz46_2 : wc.cell? ⟨gb199, 2, none⟩ = some (.int .i64 a0_2) := (blk_cell BK199.out 2).trans rfl
                          have hcz46_3 : wc.cell? ⟨gb199, 3, none⟩ = some (.string a0_3) := (blk_cell BK199.out 3).trans rfl
                          have hcz46_4 : wc.cell? ⟨gb199, 4, none⟩ = some (.int .u64 a0_4) := (blk_cell BK199.out 4).trans rfl
                          have hcz46_5 : wc.cell? ⟨gb199, 5, none⟩ = some (.string a0_5) := (blk_cell BK199.out 5).trans rfl
                          have hcz46_6 : wc.cell? ⟨gb199, 6, none⟩ = some (.int .i64 a0_6) := (blk_cell BK199.out 6).trans rfl
                          have hcz46_7 : wc.cell? ⟨gb199, 7, none⟩ = some (.int .i64 a0_7) := (blk_cell BK199.out 7).trans rfl
                          have hfz46_0 := blk_frozen BK199.out 0
                          have hfz46_1 := blk_frozen BK199.out 1
                          have hfz46_2 := blk_frozen BK199.out 2
                          have hfz46_3 := blk_frozen BK199.out 3
                          have hfz46_4 := blk_frozen BK199.out 4
                          have hfz46_5 := blk_frozen BK199.out 5
                          have hfz46_6 := blk_frozen BK199.out 6
                          have hfz46_7 := blk_frozen BK199.out 7
                          go_wp2_with (first | ((with_reducible refine gate_callee (f := 46) rfl ?_); refine goesL_ (some 44) rfl rfl Tryd.func46 (by kernel_rfl) rfl #[.int .i64 39, .string a0_5] rfl (by (try simp only [List.map_toArray, List.map_cons, List.map_nil]); first | done | rfl | (simp only [List.length_drop, List.length_take]; rfl)) ?_; (with_reducible refine (field_Right.calls kj1 39 a0_5 true _ A41.out).mono ?_); rintro e w47 ⟨rfl, hb⟩; refine ⟨_, rfl, ?_⟩; have n0_ := Aside0.mk (blk_below (g := gb199) (o := .cells #[.int .u32 a0_0, .string a0_1, .int .i64 a0_2, .string a0_3, .int .u64 a0_4, .string a0_5, .int .i64 a0_6, .int .i64 a0_7] 28 (0, 0)) (by (with_reducible repeat (first | refine blk_drewN ?_ _ | refine blk_drew ?_ | refine blk_alloc ?_ _)); exact BK199.out) hb); have n1_ := Aside0.mk (below_step (by repeat (first | (with_reducible first | exact HB.out | apply below_alloc | apply pw_below_drewN | apply below_drew1 | refine below_set ?_ GE199.out) | exact HB.out)) hb); clear BK199; clear HB; have BK199 := n0_; have HB := n1_; clear n0_ n1_; (try clear hb); (try clear hb2); (try clear hk); (try clear hi); have hcz48_0 : w47.cell? ⟨gb199, 0, none⟩ = some (.int .u32 a0_0) := (blk_cell BK199.out 0).trans rfl; have hcz48_1 : w47.cell? ⟨gb199, 1, none⟩ = some (.string a0_1) := (blk_cell BK199.out 1).trans rfl; have hcz48_2 : w47.cell? ⟨gb199, 2, none⟩ = some (.int .i64 a0_2) := (blk_cell BK199.out 2).trans rfl; have hcz48_3 : w47.cell? ⟨gb199, 3, none⟩ = some (.string a0_3) := (blk_cell BK199.out 3).trans rfl; have hcz48_4 : w47.cell? ⟨gb199, 4, none⟩ = some (.int .u64 a0_4) := (blk_cell BK199.out 4).trans rfl; have hcz48_5 : w47.cell? ⟨gb199, 5, none⟩ = some (.string a0_5) := (blk_cell BK199.out 5).trans rfl; have hcz48_6 : w47.cell? ⟨gb199, 6, none⟩ = some (.int .i64 a0_6) := (blk_cell BK199.out 6).trans rfl; have hcz48_7 : w47.cell? ⟨gb199, 7, none⟩ = some (.int .i64 a0_7) := (blk_cell BK199.out 7).trans rfl; have hfz48_0 := blk_frozen BK199.out 0; have hfz48_1 := blk_frozen BK199.out 1; have hfz48_2 := blk_frozen BK199.out 2; have hfz48_3 := blk_frozen BK199.out 3; have hfz48_4 := blk_frozen BK199.out 4; have hfz48_5 := blk_frozen BK199.out 5; have hfz48_6 := blk_frozen BK199.out 6; have hfz48_7 := blk_frozen BK199.out 7))
                          go_ret
                          exact ⟨by first | rfl | (simp [errW_none, errW_some] <;> rfl) | (simp [*, errW_none, errW_some] <;> rfl), by repeat (first | (with_reducible first | exact HB.out | apply below_alloc | apply pw_below_drewN | apply below_drew1 | refine below_set ?_ GE199.out) | exact HB.out)⟩
                        · rw [if_neg c45] at H
                          have c45b0 : (a0_7 == 1) = false := beq_eq_false_iff_ne.mpr c45
                          have c45b1 : (a0_7 != 1) = true := bne_iff_ne.mpr c45
                          obtain rfl := Option.some.inj H
                          have hcz49_0 : wc.cell? ⟨gb199, 0, none⟩ = some (.int .u32 a0_0) := (blk_cell BK199.out 0).trans rfl
                          have hcz49_1 : wc.cell? ⟨gb199, 1, none⟩ = some (.string a0_1) := (blk_cell BK199.out 1).trans rfl
                          have hcz49_2 : wc.cell? ⟨gb199, 2, none⟩ = some (.int .i64 a0_2) := (blk_cell BK199.out 2).trans rfl
                          have hcz49_3 : wc.cell? ⟨gb199, 3, none⟩ = some (.string a0_3) := (blk_cell BK199.out 3).trans rfl
                          have hcz49_4 : wc.cell? ⟨gb199, 4, none⟩ = some (.int .u64 a0_4) := (blk_cell BK199.out 4).trans rfl
                          have hcz49_5 : wc.cell? ⟨gb199, 5, none⟩ = some (.string a0_5) := (blk_cell BK199.out 5).trans rfl
                          have hcz49_6 : wc.cell? ⟨gb199, 6, none⟩ = some (.int .i64 a0_6) := (blk_cell BK199.out 6).trans rfl
                          have hcz49_7 : wc.cell? ⟨gb199, 7, none⟩ = some (.int .i64 a0_7) := (blk_cell BK199.out 7).trans rfl
                          have hfz49_0 := blk_frozen BK199.out 0
                          have hfz49_1 := blk_frozen BK199.out 1
                          have hfz49_2 := blk_frozen BK199.out 2
                          have hfz49_3 := blk_frozen BK199.out 3
                          have hfz49_4 := blk_frozen BK199.out 4
                          have hfz49_5 := blk_frozen BK199.out 5
                          have hfz49_6 := blk_frozen BK199.out 6
                          have hfz49_7 := blk_frozen BK199.out 7
                          go_wp2_with (first | ((with_reducible refine gate_callee (f := 46) rfl ?_); refine goesL_ (some 44) rfl rfl Tryd.func46 (by kernel_rfl) rfl #[.int .i64 39, .string a0_5] rfl (by (try simp only [List.map_toArray, List.map_cons, List.map_nil]); first | done | rfl | (simp only [List.length_drop, List.length_take]; rfl)) ?_; (with_reducible refine (field_Right.calls kj1 39 a0_5 true _ A41.out).mono ?_); rintro e w50 ⟨rfl, hb⟩; refine ⟨_, rfl, ?_⟩; have n0_ := Aside0.mk (blk_below (g := gb199) (o := .cells #[.int .u32 a0_0, .string a0_1, .int .i64 a0_2, .string a0_3, .int .u64 a0_4, .string a0_5, .int .i64 a0_6, .int .i64 a0_7] 28 (0, 0)) (by (with_reducible repeat (first | refine blk_drewN ?_ _ | refine blk_drew ?_ | refine blk_alloc ?_ _)); exact BK199.out) hb); have n1_ := Aside0.mk (below_step (by repeat (first | (with_reducible first | exact HB.out | apply below_alloc | apply pw_below_drewN | apply below_drew1 | refine below_set ?_ GE199.out) | exact HB.out)) hb); clear BK199; clear HB; have BK199 := n0_; have HB := n1_; clear n0_ n1_; (try clear hb); (try clear hb2); (try clear hk); (try clear hi); have hcz51_0 : w50.cell? ⟨gb199, 0, none⟩ = some (.int .u32 a0_0) := (blk_cell BK199.out 0).trans rfl; have hcz51_1 : w50.cell? ⟨gb199, 1, none⟩ = some (.string a0_1) := (blk_cell BK199.out 1).trans rfl; have hcz51_2 : w50.cell? ⟨gb199, 2, none⟩ = some (.int .i64 a0_2) := (blk_cell BK199.out 2).trans rfl; have hcz51_3 : w50.cell? ⟨gb199, 3, none⟩ = some (.string a0_3) := (blk_cell BK199.out 3).trans rfl; have hcz51_4 : w50.cell? ⟨gb199, 4, none⟩ = some (.int .u64 a0_4) := (blk_cell BK199.out 4).trans rfl; have hcz51_5 : w50.cell? ⟨gb199, 5, none⟩ = some (.string a0_5) := (blk_cell BK199.out 5).trans rfl; have hcz51_6 : w50.cell? ⟨gb199, 6, none⟩ = some (.int .i64 a0_6) := (blk_cell BK199.out 6).trans rfl; have hcz51_7 : w50.cell? ⟨gb199, 7, none⟩ = some (.int .i64 a0_7) := (blk_cell BK199.out 7).trans rfl; have hfz51_0 := blk_frozen BK199.out 0; have hfz51_1 := blk_frozen BK199.out 1; have hfz51_2 := blk_frozen BK199.out 2; have hfz51_3 := blk_frozen BK199.out 3; have hfz51_4 := blk_frozen BK199.out 4; have hfz51_5 := blk_frozen BK199.out 5; have hfz51_6 := blk_frozen BK199.out 6; have hfz51_7 := blk_frozen BK199.out 7))
                          go_ret
                          exact ⟨by first | rfl | (simp [errW_none, errW_some] <;> rfl) | (simp [*, errW_none, errW_some] <;> rfl), by repeat (first | (with_reducible first | exact HB.out | apply below_alloc | apply pw_below_drewN | apply below_drew1 | refine below_set ?_ GE199.out) | exact HB.out)⟩
                      · rw [if_neg c44] at H
                        have c44b0 : decide (a0_6 ≤ 16) = false := decide_eq_false c44
                        clear c44
                        obtain rfl := Option.some.inj H
                        have hcz52_0 : wc.cell? ⟨gb199, 0, none⟩ = some (.int .u32 a0_0) := (blk_cell BK199.out 0).trans rfl
                        have hcz52_1 : wc.cell? ⟨gb199, 1, none⟩ = some (.string a0_1) := (blk_cell BK199.out 1).trans rfl
                        have hcz52_2 : wc.cell? ⟨gb199, 2, none⟩ = some (.int .i64 a0_2) := (blk_cell BK199.out 2).trans rfl
                        have hcz52_3 : wc.cell? ⟨gb199, 3, none⟩ = some (.string a0_3) := (blk_cell BK199.out 3).trans rfl
                        have hcz52_4 : wc.cell? ⟨gb199, 4, none⟩ = some (.int .u64 a0_4) := (blk_cell BK199.out 4).trans rfl
                        have hcz52_5 : wc.cell? ⟨gb199, 5, none⟩ = some (.string a0_5) := (blk_cell BK199.out 5).trans rfl
                        have hcz52_6 : wc.cell? ⟨gb199, 6, none⟩ = some (.int .i64 a0_6) := (blk_cell BK199.out 6).trans rfl
                        have hcz52_7 : wc.cell? ⟨gb199, 7, none⟩ = some (.int .i64 a0_7) := (blk_cell BK199.out 7).trans rfl
                        have hfz52_0 := blk_frozen BK199.out 0
                        have hfz52_1 := blk_frozen BK199.out 1
                        have hfz52_2 := blk_frozen BK199.out 2
                        have hfz52_3 := blk_frozen BK199.out 3
                        have hfz52_4 := blk_frozen BK199.out 4
                        have hfz52_5 := blk_frozen BK199.out 5
                        have hfz52_6 := blk_frozen BK199.out 6
                        have hfz52_7 := blk_frozen BK199.out 7
                        go_wp2_with (first | ((with_reducible refine gate_callee (f := 46) rfl ?_); refine goesL_ (some 44) rfl rfl Tryd.func46 (by kernel_rfl) rfl #[.int .i64 39, .string a0_5] rfl (by (try simp only [List.map_toArray, List.map_cons, List.map_nil]); first | done | rfl | (simp only [List.length_drop, List.length_take]; rfl)) ?_; (with_reducible refine (field_Right.calls kj1 39 a0_5 true _ A41.out).mono ?_); rintro e w53 ⟨rfl, hb⟩; refine ⟨_, rfl, ?_⟩; have n0_ := Aside0.mk (blk_below (g := gb199) (o := .cells #[.int .u32 a0_0, .string a0_1, .int .i64 a0_2, .string a0_3, .int .u64 a0_4, .string a0_5, .int .i64 a0_6, .int .i64 a0_7] 28 (0, 0)) (by (with_reducible repeat (first | refine blk_drewN ?_ _ | refine blk_drew ?_ | refine blk_alloc ?_ _)); exact BK199.out) hb); have n1_ := Aside0.mk (below_step (by repeat (first | (with_reducible first | exact HB.out | apply below_alloc | apply pw_below_drewN | apply below_drew1 | refine below_set ?_ GE199.out) | exact HB.out)) hb); clear BK199; clear HB; have BK199 := n0_; have HB := n1_; clear n0_ n1_; (try clear hb); (try clear hb2); (try clear hk); (try clear hi); have hcz54_0 : w53.cell? ⟨gb199, 0, none⟩ = some (.int .u32 a0_0) := (blk_cell BK199.out 0).trans rfl; have hcz54_1 : w53.cell? ⟨gb199, 1, none⟩ = some (.string a0_1) := (blk_cell BK199.out 1).trans rfl; have hcz54_2 : w53.cell? ⟨gb199, 2, none⟩ = some (.int .i64 a0_2) := (blk_cell BK199.out 2).trans rfl; have hcz54_3 : w53.cell? ⟨gb199, 3, none⟩ = some (.string a0_3) := (blk_cell BK199.out 3).trans rfl; have hcz54_4 : w53.cell? ⟨gb199, 4, none⟩ = some (.int .u64 a0_4) := (blk_cell BK199.out 4).trans rfl; have hcz54_5 : w53.cell? ⟨gb199, 5, none⟩ = some (.string a0_5) := (blk_cell BK199.out 5).trans rfl; have hcz54_6 : w53.cell? ⟨gb199, 6, none⟩ = some (.int .i64 a0_6) := (blk_cell BK199.out 6).trans rfl; have hcz54_7 : w53.cell? ⟨gb199, 7, none⟩ = some (.int .i64 a0_7) := (blk_cell BK199.out 7).trans rfl; have hfz54_0 := blk_frozen BK199.out 0; have hfz54_1 := blk_frozen BK199.out 1; have hfz54_2 := blk_frozen BK199.out 2; have hfz54_3 := blk_frozen BK199.out 3; have hfz54_4 := blk_frozen BK199.out 4; have hfz54_5 := blk_frozen BK199.out 5; have hfz54_6 := blk_frozen BK199.out 6; have hfz54_7 := blk_frozen BK199.out 7))
                        go_ret
                        exact ⟨by first | rfl | (simp [errW_none, errW_some] <;> rfl) | (simp [*, errW_none, errW_some] <;> rfl), by repeat (first | (with_reducible first | exact HB.out | apply below_alloc | apply pw_below_drewN | apply below_drew1 | refine below_set ?_ GE199.out) | exact HB.out)⟩
                    · rw [if_neg c43] at H
                      have c43b0 : decide (0 ≤ a0_6) = false := decide_eq_false c43
                      clear c43
                      obtain rfl := Option.some.inj H
                      have hcz55_0 : wc.cell? ⟨gb199, 0, none⟩ = some (.int .u32 a0_0) := (blk_cell BK199.out 0).trans rfl
                      have hcz55_1 : wc.cell? ⟨gb199, 1, none⟩ = some (.string a0_1) := (blk_cell BK199.out 1).trans rfl
                      have hcz55_2 : wc.cell? ⟨gb199, 2, none⟩ = some (.int .i64 a0_2) := (blk_cell BK199.out 2).trans rfl
                      have hcz55_3 : wc.cell? ⟨gb199, 3, none⟩ = some (.string a0_3) := (blk_cell BK199.out 3).trans rfl
                      have hcz55_4 : wc.cell? ⟨gb199, 4, none⟩ = some (.int .u64 a0_4) := (blk_cell BK199.out 4).trans rfl
                      have hcz55_5 : wc.cell? ⟨gb199, 5, none⟩ = some (.string a0_5) := (blk_cell BK199.out 5).trans rfl
                      have hcz55_6 : wc.cell? ⟨gb199, 6, none⟩ = some (.int .i64 a0_6) := (blk_cell BK199.out 6).trans rfl
                      have hcz55_7 : wc.cell? ⟨gb199, 7, none⟩ = some (.int .i64 a0_7) := (blk_cell BK199.out 7).trans rfl
                      have hfz55_0 := blk_frozen BK199.out 0
                      have hfz55_1 := blk_frozen BK199.out 1
                      have hfz55_2 := blk_frozen BK199.out 2
                      have hfz55_3 := blk_frozen BK199.out 3
                      have hfz55_4 := blk_frozen BK199.out 4
                      have hfz55_5 := blk_frozen BK199.out 5
                      have hfz55_6 := blk_frozen BK199.out 6
                      have hfz55_7 := blk_frozen BK199.out 7
                      go_wp2_with (first | ((with_reducible refine gate_callee (f := 46) rfl ?_); refine goesL_ (some 44) rfl rfl Tryd.func46 (by kernel_rfl) rfl #[.int .i64 39, .string a0_5] rfl (by (try simp only [List.map_toArray, List.map_cons, List.map_nil]); first | done | rfl | (simp only [List.length_drop, List.length_take]; rfl)) ?_; (with_reducible refine (field_Right.calls kj1 39 a0_5 true _ A41.out).mono ?_); rintro e w56 ⟨rfl, hb⟩; refine ⟨_, rfl, ?_⟩; have n0_ := Aside0.mk (blk_below (g := gb199) (o := .cells #[.int .u32 a0_0, .string a0_1, .int .i64 a0_2, .string a0_3, .int .u64 a0_4, .string a0_5, .int .i64 a0_6, .int .i64 a0_7] 28 (0, 0)) (by (with_reducible repeat (first | refine blk_drewN ?_ _ | refine blk_drew ?_ | refine blk_alloc ?_ _)); exact BK199.out) hb); have n1_ := Aside0.mk (below_step (by repeat (first | (with_reducible first | exact HB.out | apply below_alloc | apply pw_below_drewN | apply below_drew1 | refine below_set ?_ GE199.out) | exact HB.out)) hb); clear BK199; clear HB; have BK199 := n0_; have HB := n1_; clear n0_ n1_; (try clear hb); (try clear hb2); (try clear hk); (try clear hi); have hcz57_0 : w56.cell? ⟨gb199, 0, none⟩ = some (.int .u32 a0_0) := (blk_cell BK199.out 0).trans rfl; have hcz57_1 : w56.cell? ⟨gb199, 1, none⟩ = some (.string a0_1) := (blk_cell BK199.out 1).trans rfl; have hcz57_2 : w56.cell? ⟨gb199, 2, none⟩ = some (.int .i64 a0_2) := (blk_cell BK199.out 2).trans rfl; have hcz57_3 : w56.cell? ⟨gb199, 3, none⟩ = some (.string a0_3) := (blk_cell BK199.out 3).trans rfl; have hcz57_4 : w56.cell? ⟨gb199, 4, none⟩ = some (.int .u64 a0_4) := (blk_cell BK199.out 4).trans rfl; have hcz57_5 : w56.cell? ⟨gb199, 5, none⟩ = some (.string a0_5) := (blk_cell BK199.out 5).trans rfl; have hcz57_6 : w56.cell? ⟨gb199, 6, none⟩ = some (.int .i64 a0_6) := (blk_cell BK199.out 6).trans rfl; have hcz57_7 : w56.cell? ⟨gb199, 7, none⟩ = some (.int .i64 a0_7) := (blk_cell BK199.out 7).trans rfl; have hfz57_0 := blk_frozen BK199.out 0; have hfz57_1 := blk_frozen BK199.out 1; have hfz57_2 := blk_frozen BK199.out 2; have hfz57_3 := blk_frozen BK199.out 3; have hfz57_4 := blk_frozen BK199.out 4; have hfz57_5 := blk_frozen BK199.out 5; have hfz57_6 := blk_frozen BK199.out 6; have hfz57_7 := blk_frozen BK199.out 7))
                      go_ret
                      exact ⟨by first | rfl | (simp [errW_none, errW_some] <;> rfl) | (simp [*, errW_none, errW_some] <;> rfl), by repeat (first | (with_reducible first | exact HB.out | apply below_alloc | apply pw_below_drewN | apply below_drew1 | refine below_set ?_ GE199.out) | exact HB.out)⟩
                  · replace c42 := Bool.eq_false_iff.mpr c42
                    subst c42
                    have H1 : (some false) = some r := by rw [if_neg (show ¬ (false = true) by decide)] at H; exact H
                    clear H
                    have H := H1
                    clear H1
                    obtain rfl := Option.some.inj H
                    have hcz58_0 : wc.cell? ⟨gb199, 0, none⟩ = some (.int .u32 a0_0) := (blk_cell BK199.out 0).trans rfl
                    have hcz58_1 : wc.cell? ⟨gb199, 1, none⟩ = some (.string a0_1) := (blk_cell BK199.out 1).trans rfl
                    have hcz58_2 : wc.cell? ⟨gb199, 2, none⟩ = some (.int .i64 a0_2) := (blk_cell BK199.out 2).trans rfl
                    have hcz58_3 : wc.cell? ⟨gb199, 3, none⟩ = some (.string a0_3) := (blk_cell BK199.out 3).trans rfl
                    have hcz58_4 : wc.cell? ⟨gb199, 4, none⟩ = some (.int .u64 a0_4) := (blk_cell BK199.out 4).trans rfl
                    have hcz58_5 : wc.cell? ⟨gb199, 5, none⟩ = some (.string a0_5) := (blk_cell BK199.out 5).trans rfl
                    have hcz58_6 : wc.cell? ⟨gb199, 6, none⟩ = some (.int .i64 a0_6) := (blk_cell BK199.out 6).trans rfl
                    have hcz58_7 : wc.cell? ⟨gb199, 7, none⟩ = some (.int .i64 a0_7) := (blk_cell BK199.out 7).trans rfl
                    have hfz58_0 := blk_frozen BK199.out 0
                    have hfz58_1 := blk_frozen BK199.out 1
                    have hfz58_2 := blk_frozen BK199.out 2
                    have hfz58_3 := blk_frozen BK199.out 3
                    have hfz58_4 := blk_frozen BK199.out 4
                    have hfz58_5 := blk_frozen BK199.out 5
                    have hfz58_6 := blk_frozen BK199.out 6
                    have hfz58_7 := blk_frozen BK199.out 7
                    go_wp2_with (first | ((with_reducible refine gate_callee (f := 46) rfl ?_); refine goesL_ (some 44) rfl rfl Tryd.func46 (by kernel_rfl) rfl #[.int .i64 39, .string a0_5] rfl (by (try simp only [List.map_toArray, List.map_cons, List.map_nil]); first | done | rfl | (simp only [List.length_drop, List.length_take]; rfl)) ?_; (with_reducible refine (field_Right.calls kj1 39 a0_5 false _ A41.out).mono ?_); rintro e w59 ⟨rfl, hb⟩; refine ⟨_, rfl, ?_⟩; have n0_ := Aside0.mk (blk_below (g := gb199) (o := .cells #[.int .u32 a0_0, .string a0_1, .int .i64 a0_2, .string a0_3, .int .u64 a0_4, .string a0_5, .int .i64 a0_6, .int .i64 a0_7] 28 (0, 0)) (by (with_reducible repeat (first | refine blk_drewN ?_ _ | refine blk_drew ?_ | refine blk_alloc ?_ _)); exact BK199.out) hb); have n1_ := Aside0.mk (below_step (by repeat (first | (with_reducible first | exact HB.out | apply below_alloc | apply pw_below_drewN | apply below_drew1 | refine below_set ?_ GE199.out) | exact HB.out)) hb); clear BK199; clear HB; have BK199 := n0_; have HB := n1_; clear n0_ n1_; (try clear hb); (try clear hb2); (try clear hk); (try clear hi)))
                    go_ret
                    exact ⟨by first | rfl | (simp [errW_none, errW_some] <;> rfl) | (simp [*, errW_none, errW_some] <;> rfl), by repeat (first | (with_reducible first | exact HB.out | apply below_alloc | apply pw_below_drewN | apply below_drew1 | refine below_set ?_ GE199.out) | exact HB.out)⟩
                · rw [if_neg c40] at H
                  have c40b0 : (a0_2 == 5) = false := beq_eq_false_iff_ne.mpr c40
                  have c40b1 : (a0_2 != 5) = true := bne_iff_ne.mpr c40
                  by_cases c60 : a0_2 = 6
                  · rw [if_pos c60] at H
                    have c60b0 : (a0_2 == 6) = true := beq_iff_eq.mpr c60
                    have c60b1 : (a0_2 != 6) = false := bne_eq_false_iff_eq.mpr c60
                    clear c60
                    replace H := Option.bind_eq_some_iff.mp H
                    obtain ⟨t203, A610, H⟩ := H
                    replace H : (if t203 = true then (if a0_6 ≥ 0 then (if a0_6 ≤ 16 then (if a0_7 = 1 then (some true) else (some (a0_7 == 2))) else (some false)) else (some false)) else (some false)) = some r := H
                    have A61 := Aside0.mk A610
                    clear A610
                    by_cases c62 : t203 = true
                    · subst c62
                      have H1 : (if a0_6 ≥ 0 then (if a0_6 ≤ 16 then (if a0_7 = 1 then (some true) else (some (a0_7 == 2))) else (some false)) else (some false)) = some r := by rw [if_pos rfl] at H; exact H
                      clear H
                      have H := H1
                      clear H1
                      by_cases c63 : a0_6 ≥ 0
                      · rw [if_pos c63] at H
                        have c63b0 : decide (0 ≤ a0_6) = true := decide_eq_true c63
                        clear c63
                        by_cases c64 : a0_6 ≤ 16
                        · rw [if_pos c64] at H
                          have c64b0 : decide (a0_6 ≤ 16) = true := decide_eq_true c64
                          clear c64
                          by_cases c65 : a0_7 = 1
                          · rw [if_pos c65] at H
                            have c65b0 : (a0_7 == 1) = true := beq_iff_eq.mpr c65
                            have c65b1 : (a0_7 != 1) = false := bne_eq_false_iff_eq.mpr c65
                            clear c65
                            obtain rfl := Option.some.inj H
                            have hcz66_0 : wc.cell? ⟨gb199, 0, none⟩ = some (.int .u32 a0_0) := (blk_cell BK199.out 0).trans rfl
                            have hcz66_1 : wc.cell? ⟨gb199, 1, none⟩ = some (.string a0_1) := (blk_cell BK199.out 1).trans rfl
                            have hcz66_2 : wc.cell? ⟨gb199, 2, none⟩ = some (.int .i64 a0_2) := (blk_cell BK199.out 2).trans rfl
                            have hcz66_3 : wc.cell? ⟨gb199, 3, none⟩ = some (.string a0_3) := (blk_cell BK199.out 3).trans rfl
                            have hcz66_4 : wc.cell? ⟨gb199, 4, none⟩ = some (.int .u64 a0_4) := (blk_cell BK199.out 4).trans rfl
                            have hcz66_5 : wc.cell? ⟨gb199, 5, none⟩ = some (.string a0_5) := (blk_cell BK199.out 5).trans rfl
                            have hcz66_6 : wc.cell? ⟨gb199, 6, none⟩ = some (.int .i64 a0_6) := (blk_cell BK199.out 6).trans rfl
                            have hcz66_7 : wc.cell? ⟨gb199, 7, none⟩ = some (.int .i64 a0_7) := (blk_cell BK199.out 7).trans rfl
                            have hfz66_0 := blk_frozen BK199.out 0
                            have hfz66_1 := blk_frozen BK199.out 1
                            have hfz66_2 := blk_frozen BK199.out 2
                            have hfz66_3 := blk_frozen BK199.out 3
                            have hfz66_4 := blk_frozen BK199.out 4
                            have hfz66_5 := blk_frozen BK199.out 5
                            have hfz66_6 := blk_frozen BK199.out 6
                            have hfz66_7 := blk_frozen BK199.out 7
                            go_wp2_with (first | ((with_reducible refine gate_callee (f := 46) rfl ?_); refine goesL_ (some 44) rfl rfl Tryd.func46 (by kernel_rfl) rfl #[.int .i64 39, .string a0_5] rfl (by (try simp only [List.map_toArray, List.map_cons, List.map_nil]); first | done | rfl | (simp only [List.length_drop, List.length_take]; rfl)) ?_; (with_reducible refine (field_Right.calls kj1 39 a0_5 true _ A61.out).mono ?_); rintro e w67 ⟨rfl, hb⟩; refine ⟨_, rfl, ?_⟩; have n0_ := Aside0.mk (blk_below (g := gb199) (o := .cells #[.int .u32 a0_0, .string a0_1, .int .i64 a0_2, .string a0_3, .int .u64 a0_4, .string a0_5, .int .i64 a0_6, .int .i64 a0_7] 28 (0, 0)) (by (with_reducible repeat (first | refine blk_drewN ?_ _ | refine blk_drew ?_ | refine blk_alloc ?_ _)); exact BK199.out) hb); have n1_ := Aside0.mk (below_step (by repeat (first | (with_reducible first | exact HB.out | apply below_alloc | apply pw_below_drewN | apply below_drew1 | refine below_set ?_ GE199.out) | exact HB.out)) hb); clear BK199; clear HB; have BK199 := n0_; have HB := n1_; clear n0_ n1_; (try clear hb); (try clear hb2); (try clear hk); (try clear hi); have hcz68_0 : w67.cell? ⟨gb199, 0, none⟩ = some (.int .u32 a0_0) := (blk_cell BK199.out 0).trans rfl; have hcz68_1 : w67.cell? ⟨gb199, 1, none⟩ = some (.string a0_1) := (blk_cell BK199.out 1).trans rfl; have hcz68_2 : w67.cell? ⟨gb199, 2, none⟩ = some (.int .i64 a0_2) := (blk_cell BK199.out 2).trans rfl; have hcz68_3 : w67.cell? ⟨gb199, 3, none⟩ = some (.string a0_3) := (blk_cell BK199.out 3).trans rfl; have hcz68_4 : w67.cell? ⟨gb199, 4, none⟩ = some (.int .u64 a0_4) := (blk_cell BK199.out 4).trans rfl; have hcz68_5 : w67.cell? ⟨gb199, 5, none⟩ = some (.string a0_5) := (blk_cell BK199.out 5).trans rfl; have hcz68_6 : w67.cell? ⟨gb199, 6, none⟩ = some (.int .i64 a0_6) := (blk_cell BK199.out 6).trans rfl; have hcz68_7 : w67.cell? ⟨gb199, 7, none⟩ = some (.int .i64 a0_7) := (blk_cell BK199.out 7).trans rfl; have hfz68_0 := blk_frozen BK199.out 0; have hfz68_1 := blk_frozen BK199.out 1; have hfz68_2 := blk_frozen BK199.out 2; have hfz68_3 := blk_frozen BK199.out 3; have hfz68_4 := blk_frozen BK199.out 4; have hfz68_5 := blk_frozen BK199.out 5; have hfz68_6 := blk_frozen BK199.out 6; have hfz68_7 := blk_frozen BK199.out 7))
                            go_ret
                            exact ⟨by first | rfl | (simp [errW_none, errW_some] <;> rfl) | (simp [*, errW_none, errW_some] <;> rfl), by repeat (first | (with_reducible first | exact HB.out | apply below_alloc | apply pw_below_drewN | apply below_drew1 | refine below_set ?_ GE199.out) | exact HB.out)⟩
                          · rw [if_neg c65] at H
                            have c65b0 : (a0_7 == 1) = false := beq_eq_false_iff_ne.mpr c65
                            have c65b1 : (a0_7 != 1) = true := bne_iff_ne.mpr c65
                            obtain rfl := Option.some.inj H
                            have hcz69_0 : wc.cell? ⟨gb199, 0, none⟩ = some (.int .u32 a0_0) := (blk_cell BK199.out 0).trans rfl
                            have hcz69_1 : wc.cell? ⟨gb199, 1, none⟩ = some (.string a0_1) := (blk_cell BK199.out 1).trans rfl
                            have hcz69_2 : wc.cell? ⟨gb199, 2, none⟩ = some (.int .i64 a0_2) := (blk_cell BK199.out 2).trans rfl
                            have hcz69_3 : wc.cell? ⟨gb199, 3, none⟩ = some (.string a0_3) := (blk_cell BK199.out 3).trans rfl
                            have hcz69_4 : wc.cell? ⟨gb199, 4, none⟩ = some (.int .u64 a0_4) := (blk_cell BK199.out 4).trans rfl
                            have hcz69_5 : wc.cell? ⟨gb199, 5, none⟩ = some (.string a0_5) := (blk_cell BK199.out 5).trans rfl
                            have hcz69_6 : wc.cell? ⟨gb199, 6, none⟩ = some (.int .i64 a0_6) := (blk_cell BK199.out 6).trans rfl
                            have hcz69_7 : wc.cell? ⟨gb199, 7, none⟩ = some (.int .i64 a0_7) := (blk_cell BK199.out 7).trans rfl
                            have hfz69_0 := blk_frozen BK199.out 0
                            have hfz69_1 := blk_frozen BK199.out 1
                            have hfz69_2 := blk_frozen BK199.out 2
                            have hfz69_3 := blk_frozen BK199.out 3
                            have hfz69_4 := blk_frozen BK199.out 4
                            have hfz69_5 := blk_frozen BK199.out 5
                            have hfz69_6 := blk_frozen BK199.out 6
                            have hfz69_7 := blk_frozen BK199.out 7
                            go_wp2_with (first | ((with_reducible refine gate_callee (f := 46) rfl ?_); refine goesL_ (some 44) rfl rfl Tryd.func46 (by kernel_rfl) rfl #[.int .i64 39, .string a0_5] rfl (by (try simp only [List.map_toArray, List.map_cons, List.map_nil]); first | done | rfl | (simp only [List.length_drop, List.length_take]; rfl)) ?_; (with_reducible refine (field_Right.calls kj1 39 a0_5 true _ A61.out).mono ?_); rintro e w70 ⟨rfl, hb⟩; refine ⟨_, rfl, ?_⟩; have n0_ := Aside0.mk (blk_below (g := gb199) (o := .cells #[.int .u32 a0_0, .string a0_1, .int .i64 a0_2, .string a0_3, .int .u64 a0_4, .string a0_5, .int .i64 a0_6, .int .i64 a0_7] 28 (0, 0)) (by (with_reducible repeat (first | refine blk_drewN ?_ _ | refine blk_drew ?_ | refine blk_alloc ?_ _)); exact BK199.out) hb); have n1_ := Aside0.mk (below_step (by repeat (first | (with_reducible first | exact HB.out | apply below_alloc | apply pw_below_drewN | apply below_drew1 | refine below_set ?_ GE199.out) | exact HB.out)) hb); clear BK199; clear HB; have BK199 := n0_; have HB := n1_; clear n0_ n1_; (try clear hb); (try clear hb2); (try clear hk); (try clear hi); have hcz71_0 : w70.cell? ⟨gb199, 0, none⟩ = some (.int .u32 a0_0) := (blk_cell BK199.out 0).trans rfl; have hcz71_1 : w70.cell? ⟨gb199, 1, none⟩ = some (.string a0_1) := (blk_cell BK199.out 1).trans rfl; have hcz71_2 : w70.cell? ⟨gb199, 2, none⟩ = some (.int .i64 a0_2) := (blk_cell BK199.out 2).trans rfl; have hcz71_3 : w70.cell? ⟨gb199, 3, none⟩ = some (.string a0_3) := (blk_cell BK199.out 3).trans rfl; have hcz71_4 : w70.cell? ⟨gb199, 4, none⟩ = some (.int .u64 a0_4) := (blk_cell BK199.out 4).trans rfl; have hcz71_5 : w70.cell? ⟨gb199, 5, none⟩ = some (.string a0_5) := (blk_cell BK199.out 5).trans rfl; have hcz71_6 : w70.cell? ⟨gb199, 6, none⟩ = some (.int .i64 a0_6) := (blk_cell BK199.out 6).trans rfl; have hcz71_7 : w70.cell? ⟨gb199, 7, none⟩ = some (.int .i64 a0_7) := (blk_cell BK199.out 7).trans rfl; have hfz71_0 := blk_frozen BK199.out 0; have hfz71_1 := blk_frozen BK199.out 1; have hfz71_2 := blk_frozen BK199.out 2; have hfz71_3 := blk_frozen BK199.out 3; have hfz71_4 := blk_frozen BK199.out 4; have hfz71_5 := blk_frozen BK199.out 5; have hfz71_6 := blk_frozen BK199.out 6; have hfz71_7 := blk_frozen BK199.out 7))
                            go_ret
                            exact ⟨by first | rfl | (simp [errW_none, errW_some] <;> rfl) | (simp [*, errW_none, errW_some] <;> rfl), by repeat (first | (with_reducible first | exact HB.out | apply below_alloc | apply pw_below_drewN | apply below_drew1 | refine below_set ?_ GE199.out) | exact HB.out)⟩
                        · rw [if_neg c64] at H
                          have c64b0 : decide (a0_6 ≤ 16) = false := decide_eq_false c64
                          clear c64
                          obtain rfl := Option.some.inj H
                          have hcz72_0 : wc.cell? ⟨gb199, 0, none⟩ = some (.int .u32 a0_0) := (blk_cell BK199.out 0).trans rfl
                          have hcz72_1 : wc.cell? ⟨gb199, 1, none⟩ = some (.string a0_1) := (blk_cell BK199.out 1).trans rfl
                          have hcz72_2 : wc.cell? ⟨gb199, 2, none⟩ = some (.int .i64 a0_2) := (blk_cell BK199.out 2).trans rfl
                          have hcz72_3 : wc.cell? ⟨gb199, 3, none⟩ = some (.string a0_3) := (blk_cell BK199.out 3).trans rfl
                          have hcz72_4 : wc.cell? ⟨gb199, 4, none⟩ = some (.int .u64 a0_4) := (blk_cell BK199.out 4).trans rfl
                          have hcz72_5 : wc.cell? ⟨gb199, 5, none⟩ = some (.string a0_5) := (blk_cell BK199.out 5).trans rfl
                          have hcz72_6 : wc.cell? ⟨gb199, 6, none⟩ = some (.int .i64 a0_6) := (blk_cell BK199.out 6).trans rfl
                          have hcz72_7 : wc.cell? ⟨gb199, 7, none⟩ = some (.int .i64 a0_7) := (blk_cell BK199.out 7).trans rfl
                          have hfz72_0 := blk_frozen BK199.out 0
                          have hfz72_1 := blk_frozen BK199.out 1
                          have hfz72_2 := blk_frozen BK199.out 2
                          have hfz72_3 := blk_frozen BK199.out 3
                          have hfz72_4 := blk_frozen BK199.out 4
                          have hfz72_5 := blk_frozen BK199.out 5
                          have hfz72_6 := blk_frozen BK199.out 6
                          have hfz72_7 := blk_frozen BK199.out 7
                          go_wp2_with (first | ((with_reducible refine gate_callee (f := 46) rfl ?_); refine goesL_ (some 44) rfl rfl Tryd.func46 (by kernel_rfl) rfl #[.int .i64 39, .string a0_5] rfl (by (try simp only [List.map_toArray, List.map_cons, List.map_nil]); first | done | rfl | (simp only [List.length_drop, List.length_take]; rfl)) ?_; (with_reducible refine (field_Right.calls kj1 39 a0_5 true _ A61.out).mono ?_); rintro e w73 ⟨rfl, hb⟩; refine ⟨_, rfl, ?_⟩; have n0_ := Aside0.mk (blk_below (g := gb199) (o := .cells #[.int .u32 a0_0, .string a0_1, .int .i64 a0_2, .string a0_3, .int .u64 a0_4, .string a0_5, .int .i64 a0_6, .int .i64 a0_7] 28 (0, 0)) (by (with_reducible repeat (first | refine blk_drewN ?_ _ | refine blk_drew ?_ | refine blk_alloc ?_ _)); exact BK199.out) hb); have n1_ := Aside0.mk (below_step (by repeat (first | (with_reducible first | exact HB.out | apply below_alloc | apply pw_below_drewN | apply below_drew1 | refine below_set ?_ GE199.out) | exact HB.out)) hb); clear BK199; clear HB; have BK199 := n0_; have HB := n1_; clear n0_ n1_; (try clear hb); (try clear hb2); (try clear hk); (try clear hi); have hcz74_0 : w73.cell? ⟨gb199, 0, none⟩ = some (.int .u32 a0_0) := (blk_cell BK199.out 0).trans rfl; have hcz74_1 : w73.cell? ⟨gb199, 1, none⟩ = some (.string a0_1) := (blk_cell BK199.out 1).trans rfl; have hcz74_2 : w73.cell? ⟨gb199, 2, none⟩ = some (.int .i64 a0_2) := (blk_cell BK199.out 2).trans rfl; have hcz74_3 : w73.cell? ⟨gb199, 3, none⟩ = some (.string a0_3) := (blk_cell BK199.out 3).trans rfl; have hcz74_4 : w73.cell? ⟨gb199, 4, none⟩ = some (.int .u64 a0_4) := (blk_cell BK199.out 4).trans rfl; have hcz74_5 : w73.cell? ⟨gb199, 5, none⟩ = some (.string a0_5) := (blk_cell BK199.out 5).trans rfl; have hcz74_6 : w73.cell? ⟨gb199, 6, none⟩ = some (.int .i64 a0_6) := (blk_cell BK199.out 6).trans rfl; have hcz74_7 : w73.cell? ⟨gb199, 7, none⟩ = some (.int .i64 a0_7) := (blk_cell BK199.out 7).trans rfl; have hfz74_0 := blk_frozen BK199.out 0; have hfz74_1 := blk_frozen BK199.out 1; have hfz74_2 := blk_frozen BK199.out 2; have hfz74_3 := blk_frozen BK199.out 3; have hfz74_4 := blk_frozen BK199.out 4; have hfz74_5 := blk_frozen BK199.out 5; have hfz74_6 := blk_frozen BK199.out 6; have hfz74_7 := blk_frozen BK199.out 7))
                          go_ret
                          exact ⟨by first | rfl | (simp [errW_none, errW_some] <;> rfl) | (simp [*, errW_none, errW_some] <;> rfl), by repeat (first | (with_reducible first | exact HB.out | apply below_alloc | apply pw_below_drewN | apply below_drew1 | refine below_set ?_ GE199.out) | exact HB.out)⟩
                      · rw [if_neg c63] at H
                        have c63b0 : decide (0 ≤ a0_6) = false := decide_eq_false c63
                        clear c63
                        obtain rfl := Option.some.inj H
                        have hcz75_0 : wc.cell? ⟨gb199, 0, none⟩ = some (.int .u32 a0_0) := (blk_cell BK199.out 0).trans rfl
                        have hcz75_1 : wc.cell? ⟨gb199, 1, none⟩ = some (.string a0_1) := (blk_cell BK199.out 1).trans rfl
                        have hcz75_2 : wc.cell? ⟨gb199, 2, none⟩ = some (.int .i64 a0_2) := (blk_cell BK199.out 2).trans rfl
                        have hcz75_3 : wc.cell? ⟨gb199, 3, none⟩ = some (.string a0_3) := (blk_cell BK199.out 3).trans rfl
                        have hcz75_4 : wc.cell? ⟨gb199, 4, none⟩ = some (.int .u64 a0_4) := (blk_cell BK199.out 4).trans rfl
                        have hcz75_5 : wc.cell? ⟨gb199, 5, none⟩ = some (.string a0_5) := (blk_cell BK199.out 5).trans rfl
                        have hcz75_6 : wc.cell? ⟨gb199, 6, none⟩ = some (.int .i64 a0_6) := (blk_cell BK199.out 6).trans rfl
                        have hcz75_7 : wc.cell? ⟨gb199, 7, none⟩ = some (.int .i64 a0_7) := (blk_cell BK199.out 7).trans rfl
                        have hfz75_0 := blk_frozen BK199.out 0
                        have hfz75_1 := blk_frozen BK199.out 1
                        have hfz75_2 := blk_frozen BK199.out 2
                        have hfz75_3 := blk_frozen BK199.out 3
                        have hfz75_4 := blk_frozen BK199.out 4
                        have hfz75_5 := blk_frozen BK199.out 5
                        have hfz75_6 := blk_frozen BK199.out 6
                        have hfz75_7 := blk_frozen BK199.out 7
                        go_wp2_with (first | ((with_reducible refine gate_callee (f := 46) rfl ?_); refine goesL_ (some 44) rfl rfl Tryd.func46 (by kernel_rfl) rfl #[.int .i64 39, .string a0_5] rfl (by (try simp only [List.map_toArray, List.map_cons, List.map_nil]); first | done | rfl | (simp only [List.length_drop, List.length_take]; rfl)) ?_; (with_reducible refine (field_Right.calls kj1 39 a0_5 true _ A61.out).mono ?_); rintro e w76 ⟨rfl, hb⟩; refine ⟨_, rfl, ?_⟩; have n0_ := Aside0.mk (blk_below (g := gb199) (o := .cells #[.int .u32 a0_0, .string a0_1, .int .i64 a0_2, .string a0_3, .int .u64 a0_4, .string a0_5, .int .i64 a0_6, .int .i64 a0_7] 28 (0, 0)) (by (with_reducible repeat (first | refine blk_drewN ?_ _ | refine blk_drew ?_ | refine blk_alloc ?_ _)); exact BK199.out) hb); have n1_ := Aside0.mk (below_step (by repeat (first | (with_reducible first | exact HB.out | apply below_alloc | apply pw_below_drewN | apply below_drew1 | refine below_set ?_ GE199.out) | exact HB.out)) hb); clear BK199; clear HB; have BK199 := n0_; have HB := n1_; clear n0_ n1_; (try clear hb); (try clear hb2); (try clear hk); (try clear hi); have hcz77_0 : w76.cell? ⟨gb199, 0, none⟩ = some (.int .u32 a0_0) := (blk_cell BK199.out 0).trans rfl; have hcz77_1 : w76.cell? ⟨gb199, 1, none⟩ = some (.string a0_1) := (blk_cell BK199.out 1).trans rfl; have hcz77_2 : w76.cell? ⟨gb199, 2, none⟩ = some (.int .i64 a0_2) := (blk_cell BK199.out 2).trans rfl; have hcz77_3 : w76.cell? ⟨gb199, 3, none⟩ = some (.string a0_3) := (blk_cell BK199.out 3).trans rfl; have hcz77_4 : w76.cell? ⟨gb199, 4, none⟩ = some (.int .u64 a0_4) := (blk_cell BK199.out 4).trans rfl; have hcz77_5 : w76.cell? ⟨gb199, 5, none⟩ = some (.string a0_5) := (blk_cell BK199.out 5).trans rfl; have hcz77_6 : w76.cell? ⟨gb199, 6, none⟩ = some (.int .i64 a0_6) := (blk_cell BK199.out 6).trans rfl; have hcz77_7 : w76.cell? ⟨gb199, 7, none⟩ = some (.int .i64 a0_7) := (blk_cell BK199.out 7).trans rfl; have hfz77_0 := blk_frozen BK199.out 0; have hfz77_1 := blk_frozen BK199.out 1; have hfz77_2 := blk_frozen BK199.out 2; have hfz77_3 := blk_frozen BK199.out 3; have hfz77_4 := blk_frozen BK199.out 4; have hfz77_5 := blk_frozen BK199.out 5; have hfz77_6 := blk_frozen BK199.out 6; have hfz77_7 := blk_frozen BK199.out 7))
                        go_ret
                        exact ⟨by first | rfl | (simp [errW_none, errW_some] <;> rfl) | (simp [*, errW_none, errW_some] <;> rfl), by repeat (first | (with_reducible first | exact HB.out | apply below_alloc | apply pw_below_drewN | apply below_drew1 | refine below_set ?_ GE199.out) | exact HB.out)⟩
                    · replace c62 := Bool.eq_false_iff.mpr c62
                      subst c62
                      have H1 : (some false) = some r := by rw [if_neg (show ¬ (false = true) by decide)] at H; exact H
                      clear H
                      have H := H1
                      clear H1
                      obtain rfl := Option.some.inj H
                      have hcz78_0 : wc.cell? ⟨gb199, 0, none⟩ = some (.int .u32 a0_0) := (blk_cell BK199.out 0).trans rfl
                      have hcz78_1 : wc.cell? ⟨gb199, 1, none⟩ = some (.string a0_1) := (blk_cell BK199.out 1).trans rfl
                      have hcz78_2 : wc.cell? ⟨gb199, 2, none⟩ = some (.int .i64 a0_2) := (blk_cell BK199.out 2).trans rfl
                      have hcz78_3 : wc.cell? ⟨gb199, 3, none⟩ = some (.string a0_3) := (blk_cell BK199.out 3).trans rfl
                      have hcz78_4 : wc.cell? ⟨gb199, 4, none⟩ = some (.int .u64 a0_4) := (blk_cell BK199.out 4).trans rfl
                      have hcz78_5 : wc.cell? ⟨gb199, 5, none⟩ = some (.string a0_5) := (blk_cell BK199.out 5).trans rfl
                      have hcz78_6 : wc.cell? ⟨gb199, 6, none⟩ = some (.int .i64 a0_6) := (blk_cell BK199.out 6).trans rfl
                      have hcz78_7 : wc.cell? ⟨gb199, 7, none⟩ = some (.int .i64 a0_7) := (blk_cell BK199.out 7).trans rfl
                      have hfz78_0 := blk_frozen BK199.out 0
                      have hfz78_1 := blk_frozen BK199.out 1
                      have hfz78_2 := blk_frozen BK199.out 2
                      have hfz78_3 := blk_frozen BK199.out 3
                      have hfz78_4 := blk_frozen BK199.out 4
                      have hfz78_5 := blk_frozen BK199.out 5
                      have hfz78_6 := blk_frozen BK199.out 6
                      have hfz78_7 := blk_frozen BK199.out 7
                      go_wp2_with (first | ((with_reducible refine gate_callee (f := 46) rfl ?_); refine goesL_ (some 44) rfl rfl Tryd.func46 (by kernel_rfl) rfl #[.int .i64 39, .string a0_5] rfl (by (try simp only [List.map_toArray, List.map_cons, List.map_nil]); first | done | rfl | (simp only [List.length_drop, List.length_take]; rfl)) ?_; (with_reducible refine (field_Right.calls kj1 39 a0_5 false _ A61.out).mono ?_); rintro e w79 ⟨rfl, hb⟩; refine ⟨_, rfl, ?_⟩; have n0_ := Aside0.mk (blk_below (g := gb199) (o := .cells #[.int .u32 a0_0, .string a0_1, .int .i64 a0_2, .string a0_3, .int .u64 a0_4, .string a0_5, .int .i64 a0_6, .int .i64 a0_7] 28 (0, 0)) (by (with_reducible repeat (first | refine blk_drewN ?_ _ | refine blk_drew ?_ | refine blk_alloc ?_ _)); exact BK199.out) hb); have n1_ := Aside0.mk (below_step (by repeat (first | (with_reducible first | exact HB.out | apply below_alloc | apply pw_below_drewN | apply below_drew1 | refine below_set ?_ GE199.out) | exact HB.out)) hb); clear BK199; clear HB; have BK199 := n0_; have HB := n1_; clear n0_ n1_; (try clear hb); (try clear hb2); (try clear hk); (try clear hi)))
                      go_ret
                      exact ⟨by first | rfl | (simp [errW_none, errW_some] <;> rfl) | (simp [*, errW_none, errW_some] <;> rfl), by repeat (first | (with_reducible first | exact HB.out | apply below_alloc | apply pw_below_drewN | apply below_drew1 | refine below_set ?_ GE199.out) | exact HB.out)⟩
                  · rw [if_neg c60] at H
                    have c60b0 : (a0_2 == 6) = false := beq_eq_false_iff_ne.mpr c60
                    have c60b1 : (a0_2 != 6) = true := bne_iff_ne.mpr c60
                    obtain rfl := Option.some.inj H
                    have hcz80_0 : wc.cell? ⟨gb199, 0, none⟩ = some (.int .u32 a0_0) := (blk_cell BK199.out 0).trans rfl
                    have hcz80_1 : wc.cell? ⟨gb199, 1, none⟩ = some (.string a0_1) := (blk_cell BK199.out 1).trans rfl
                    have hcz80_2 : wc.cell? ⟨gb199, 2, none⟩ = some (.int .i64 a0_2) := (blk_cell BK199.out 2).trans rfl
                    have hcz80_3 : wc.cell? ⟨gb199, 3, none⟩ = some (.string a0_3) := (blk_cell BK199.out 3).trans rfl
                    have hcz80_4 : wc.cell? ⟨gb199, 4, none⟩ = some (.int .u64 a0_4) := (blk_cell BK199.out 4).trans rfl
                    have hcz80_5 : wc.cell? ⟨gb199, 5, none⟩ = some (.string a0_5) := (blk_cell BK199.out 5).trans rfl
                    have hcz80_6 : wc.cell? ⟨gb199, 6, none⟩ = some (.int .i64 a0_6) := (blk_cell BK199.out 6).trans rfl
                    have hcz80_7 : wc.cell? ⟨gb199, 7, none⟩ = some (.int .i64 a0_7) := (blk_cell BK199.out 7).trans rfl
                    have hfz80_0 := blk_frozen BK199.out 0
                    have hfz80_1 := blk_frozen BK199.out 1
                    have hfz80_2 := blk_frozen BK199.out 2
                    have hfz80_3 := blk_frozen BK199.out 3
                    have hfz80_4 := blk_frozen BK199.out 4
                    have hfz80_5 := blk_frozen BK199.out 5
                    have hfz80_6 := blk_frozen BK199.out 6
                    have hfz80_7 := blk_frozen BK199.out 7
                    go_wp2
                    go_ret
                    exact ⟨by first | rfl | (simp [errW_none, errW_some] <;> rfl) | (simp [*, errW_none, errW_some] <;> rfl), by repeat (first | (with_reducible first | exact HB.out | apply below_alloc | apply pw_below_drewN | apply below_drew1 | refine below_set ?_ GE199.out) | exact HB.out)⟩
end Go.Proofs.YtkgkemihhfipaaaDoor.HK

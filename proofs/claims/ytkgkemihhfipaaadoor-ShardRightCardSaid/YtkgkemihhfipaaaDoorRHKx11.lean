/- Packed by pack.py (this session's own program): texts of the kit's printer and of my own, what is not used struck. -/
import Derived.Test.YtkgkemihhfipaaaDoorRHKx0
import Derived.Test.YtkgkemihhfipaaaDoorRHKx1
namespace Go.Proofs.YtkgkemihhfipaaaDoor.HK
open Go.RowKit Go.Proofs.YtkgkemihhfipaaaDoorW.PrintWords Go.Proofs.YtkgkemihhfipaaaDoorW.PrintLast Go.Proofs.YtkgkemihhfipaaaDoorW.PrintMore
attribute [local go_sem] max2_int min2_int max_two min_two max_three min_three max_four min_four
set_option linter.unusedVariables false
set_option linter.unusedSimpArgs false
set_option linter.unusedSectionVars false
attribute [local go_sem high] eqA25
def shard_Find.l0 : Nat → List (S28) → Int → Int → Int → ByteArray → Option (Int × ByteArray × Int × ByteArray × Int × ByteArray × Int × Int × Bool)
  | 0, _, _, _, _, _ => none
  | k + 1, x8, x9, x10, x220000, x220001 => if x10 < x9 then (if 0 ≤ x10 then (if x10 < (x8.length : Int) then (if (((rd_T28 x8 x10).f0.f0) == x220000 && ((((rd_T28 x8 x10).f0.f1).toList) == x220001.toList)) = true then (some ((rd_T28 x8 x10).f0.f0, (rd_T28 x8 x10).f0.f1, (rd_T28 x8 x10).f1, (rd_T28 x8 x10).f2, (rd_T28 x8 x10).f3, (rd_T28 x8 x10).f4, (rd_T28 x8 x10).f5, (rd_T28 x8 x10).f6, true)) else (shard_Find.l0 k x8 x9 (wrap64 (x10 + 1)) x220000 x220001)) else (none)) else (none)) else (some (0, (⟨#[]⟩ : ByteArray), 0, (⟨#[]⟩ : ByteArray), 0, (⟨#[]⟩ : ByteArray), 0, 0, false))
def shard_Find.f (k : Nat) (l0 : List (S28)) (a1_0 : Int) (a1_1 : ByteArray) : Option (Int × ByteArray × Int × ByteArray × Int × ByteArray × Int × Int × Bool) := shard_Find.l0 k l0 (l0.length : Int) 0 a1_0 a1_1
theorem shard_Find.mono_l : ∀ k, (∀ y0 y1 y2 y3 y4, LeO (shard_Find.l0 k y0 y1 y2 y3 y4) (shard_Find.l0 (k + 1) y0 y1 y2 y3 y4))
  | 0 => fun _ _ _ _ _ r h => by simp [shard_Find.l0] at h
  | k + 1 => by
    have ih0 := shard_Find.mono_l k
    · intro y0 y1 y2 y3 y4
      unfold shard_Find.l0
      repeat' first
      | (with_reducible exact ih0 _ _ _ _ _)
      | (with_reducible exact LeO.refl _)
      | (with_reducible exact LeO.none _)
      | (with_reducible refine LeO.ite ?_ ?_)
      | (with_reducible refine LeO.bind ?_ (fun _ => ?_))
      | exact ih0 _ _ _ _ _
      | exact LeO.none _
      | refine LeO.ite ?_ ?_
      | refine LeO.bind ?_ (fun _ => ?_)
theorem shard_Find.mono : ∀ a0 a1 a2 k, LeO (shard_Find.f k a0 a1 a2) (shard_Find.f (k + 1) a0 a1 a2) := by
  intro a0 a1 a2 k
  have ih0 := shard_Find.mono_l k
  unfold shard_Find.f
  repeat' first
      | (with_reducible exact ih0 _ _ _ _ _)
      | (with_reducible exact LeO.refl _)
      | (with_reducible exact LeO.none _)
      | (with_reducible refine LeO.ite ?_ ?_)
      | (with_reducible refine LeO.bind ?_ (fun _ => ?_))
      | exact ih0 _ _ _ _ _
      | exact LeO.none _
      | refine LeO.ite ?_ ?_
      | refine LeO.bind ?_ (fun _ => ?_)
set_option maxHeartbeats 8000000 in
set_option maxRecDepth 100000 in
theorem shard_Find.calls (k : Nat) (A0 : Option Addr) (c0 : Nat) (l0 : List (S28)) (a1_0 : Int) (a1_1 : ByteArray) (r1 : Int) (r2 : ByteArray) (r3 : Int) (r4 : ByteArray) (r5 : Int) (r6 : ByteArray) (r7 : Int) (r8 : Int) (r9 : Bool) (w : World) (hr0 : Kd.C k28 w A0 l0.length l0) (hc0 : l0.length ≤ c0) (h : shard_Find.f k l0 a1_0 a1_1 = some (r1, r2, r3, r4, r5, r6, r7, r8, r9)) :
    Calls Tryd.prog 12 #[.slice A0 l0.length c0, .agg #[.int .u32 a1_0, .string a1_1]] w fun e w' => e = .returned (.tuple #[.agg #[.int .u32 r1, .string r2, .int .i64 r3, .string r4, .int .u64 r5, .string r6, .int .i64 r7, .int .i64 r8], .bool r9]) ∧ Below w.heap.size w w' := by
  have hu25 := Tryd.underlying25
  have hu28 := Tryd.underlying28
  have HR0 := Aside0.mk hr0
  have HC0 := Aside0.mk hc0
  clear hr0 hc0
  have HB := Aside0.mk (Below.refl w.heap.size w)
  have H : (shard_Find.l0 k l0 (l0.length : Int) 0 a1_0 a1_1) = some (r1, r2, r3, r4, r5, r6, r7, r8, r9) := h
  clear h
  have H' := Aside0.mk H
  clear H
  go_enter Tryd.func12, Tryd.ntmps12
  go_wp2_with (first | ((with_reducible refine gate_dst (N := 3) rfl ?_); refine box_event ?hg (N := 3) ?hd (cs := #[.int .u32 a1_0, .string a1_1]) (t := 25) ?hr ?_; (case hd => rfl); (case hg => rfl); (case hr => first | (go_simp; done) | (go_simp; rfl)); intro gb219 hg w3 hbox hb; have n0_ := Aside0.mk (below_step (by repeat (first | (with_reducible first | exact HB.out | apply below_alloc | apply pw_below_drewN | apply below_drew1) | exact HB.out)) hb); have n1_ := Aside0.mk (hbox); have n2_ := Aside0.mk ((by rw [hg]; exact (below_size (by repeat (first | (with_reducible first | exact HB.out | apply below_alloc | apply pw_below_drewN | apply below_drew1) | exact HB.out))) : w.heap.size ≤ gb219)); have n3_ := Aside0.mk ((by rw [hg]; exact (below_size (by repeat (first | (with_reducible first | exact HB.out | apply below_alloc | apply pw_below_drewN | apply below_drew1) | exact HB.out))) : w.heap.size ≤ gb219)); clear HB; have HB := n0_; have BK219 := n1_; have GW219 := n2_; have GE219 := n3_; clear n0_ n1_ n2_ n3_; clear hb hbox hg) | ((with_reducible refine gate_dst (N := 4) rfl ?_); refine box_event ?hg (N := 4) ?hd (cs := #[.int .u32 0, .string (⟨#[]⟩ : ByteArray), .int .i64 0, .string (⟨#[]⟩ : ByteArray), .int .u64 0, .string (⟨#[]⟩ : ByteArray), .int .i64 0, .int .i64 0]) (t := 28) ?hr ?_; (case hd => rfl); (case hg => rfl); (case hr => first | (go_simp; done) | (go_simp; rfl)); intro gb220 hg w4 hbox hb; have n0_ := Aside0.mk (blk_below (g := gb219) (o := .cells #[.int .u32 a1_0, .string a1_1] 25 (0, 0)) (by (with_reducible repeat (first | refine blk_drewN ?_ _ | refine blk_drew ?_ | refine blk_alloc ?_ _)); exact BK219.out) hb); have n1_ := Aside0.mk (below_step (by repeat (first | (with_reducible first | exact HB.out | apply below_alloc | apply pw_below_drewN | apply below_drew1 | refine below_set ?_ GE219.out) | exact HB.out)) hb); have n2_ := Aside0.mk (hbox); have n3_ := Aside0.mk ((by rw [hg]; exact (below_size (by repeat (first | (with_reducible first | exact HB.out | apply below_alloc | apply pw_below_drewN | apply below_drew1 | refine below_set ?_ GE219.out) | exact HB.out))) : w.heap.size ≤ gb220)); have n4_ := Aside0.mk ((by rw [hg]; exact (below_size (by repeat (first | (with_reducible first | exact HB.out | apply below_alloc | apply pw_below_drewN | apply below_drew1 | refine below_set ?_ GE219.out) | exact HB.out))) : w.heap.size ≤ gb220)); have n5_ := Aside0.mk ((by rw [hg]; exact Nat.ne_of_lt (blk_lt (g := gb219) (o := .cells #[.int .u32 a1_0, .string a1_1] 25 (0, 0)) (by (with_reducible repeat (first | refine blk_drewN ?_ _ | refine blk_drew ?_ | refine blk_alloc ?_ _)); exact BK219.out)) : gb219 ≠ gb220)); have n6_ := Aside0.mk ((by rw [hg]; exact Nat.ne_of_gt (blk_lt (g := gb219) (o := .cells #[.int .u32 a1_0, .string a1_1] 25 (0, 0)) (by (with_reducible repeat (first | refine blk_drewN ?_ _ | refine blk_drew ?_ | refine blk_alloc ?_ _)); exact BK219.out)) : gb220 ≠ gb219)); clear BK219; clear HB; have BK219 := n0_; have HB := n1_; have BK220 := n2_; have GW220 := n3_; have GE220 := n4_; have NB219_220 := n5_; have NB220_219 := n6_; clear n0_ n1_ n2_ n3_ n4_ n5_ n6_; clear hb hbox hg))
  go_loopg [10] k (fun kq v10 w' => ∃ (x10_1 : Int) (x221000_1 : Int) (x221001_1 : ByteArray) (x221002_1 : Int) (x221003_1 : ByteArray) (x221004_1 : Int) (x221005_1 : ByteArray) (x221006_1 : Int) (x221007_1 : Int), v10 = .int .i64 x10_1 ∧ Aside0 (shard_Find.l0 kq l0 (l0.length : Int) x10_1 a1_0 a1_1 = some (r1, r2, r3, r4, r5, r6, r7, r8, r9)) ∧ Aside0 (kq ≤ k) ∧ Aside0 (w'.heap[gb219]? = some (.cells #[.int .u32 a1_0, .string a1_1] 25 (0, 0))) ∧ Aside0 (w'.heap[gb220]? = some (.cells #[.int .u32 x221000_1, .string x221001_1, .int .i64 x221002_1, .string x221003_1, .int .u64 x221004_1, .string x221005_1, .int .i64 x221006_1, .int .i64 x221007_1] 28 (0, 0))) ∧ Aside0 (Below w.heap.size w w'))
  case atStart => exact ⟨(0), (0), ((⟨#[]⟩ : ByteArray)), (0), ((⟨#[]⟩ : ByteArray)), (0), ((⟨#[]⟩ : ByteArray)), (0), (0), (by first | rfl | (simp; done) | (simp [*]; done)), H', ⟨Nat.le_refl _⟩, ⟨by (with_reducible repeat (first | refine blk_drewN ?_ _ | refine blk_drew ?_ | refine blk_alloc ?_ _)); exact BK219.out⟩, ⟨by (with_reducible repeat (first | refine blk_drewN ?_ _ | refine blk_drew ?_ | refine blk_alloc ?_ _)); exact BK220.out⟩, ⟨by repeat (first | (with_reducible first | exact HB.out | apply below_alloc | apply pw_below_drewN | apply below_drew1 | refine below_set ?_ GE219.out | refine below_set ?_ GE220.out) | exact HB.out)⟩⟩
  case round =>
    clear H'
    try clear c1
    try clear p2
    obtain ⟨x10_1, x221000_1, x221001_1, x221002_1, x221003_1, x221004_1, x221005_1, x221006_1, x221007_1, rfl, HA, HK1, BK219, BK220, HB⟩ := hrel
    cases gk with
    | zero => exact absurd HA.out (by simp [shard_Find.l0])
    | succ k1 =>
      have H := HA.out
      clear HA
      simp only [shard_Find.l0] at H
      by_cases c5 : x10_1 < (l0.length : Int)
      · rw [if_pos c5] at H
        have c5b0 : decide (x10_1 < (l0.length : Int)) = true := decide_eq_true c5
        clear c5
        by_cases c6 : 0 ≤ x10_1
        · rw [if_pos c6] at H
          have c6b0 : decide (0 ≤ x10_1) = true := decide_eq_true c6
          clear c6
          by_cases c7 : x10_1 < (l0.length : Int)
          · rw [if_pos c7] at H
            have c7b0 : decide (x10_1 < (l0.length : Int)) = true := decide_eq_true c7
            clear c7
            by_cases c8 : (((rd_T28 l0 x10_1).f0.f0) == a1_0 && ((((rd_T28 l0 x10_1).f0.f1).toList) == a1_1.toList)) = true
            · rw [if_pos c8] at H
              have c8b0 : (((rd_T28 l0 x10_1).f0.f0) == a1_0 && ((((rd_T28 l0 x10_1).f0.f1).toList) == a1_1.toList)) = true := c8
              (try (have c8b1 : decide (((rd_T28 l0 x10_1).f0.f0) = a1_0 && ((((rd_T28 l0 x10_1).f0.f1).toList) == a1_1.toList)) = true := by simpa using c8))
              (try (have c8b2 : (((rd_T28 l0 x10_1).f0.f0) == a1_0 && ((((rd_T28 l0 x10_1).f0.f1).toList) == a1_1.toList)) = true := by simpa using c8))
              clear c8
              simp only [Option.some.injEq, Prod.mk.injEq] at H
              obtain ⟨rfl, rfl, rfl, rfl, rfl, rfl, rfl, rfl, rfl⟩ := H
              have p221 : 0 ≤ (x10_1 : Int) := of_decide_eq_true (by first | (with_reducible assumption) | assumption)
              have q221 : x10_1 < (l0.length : Int) := of_decide_eq_true (by first | (with_reducible assumption) | assumption)
              obtain ⟨ad221, e221, hx221_0, hx221_1, hx221_2, hx221_3, hx221_4, hx221_5, hx221_6, hx221_7⟩ := at_T28 HR0.out x10_1 p221 q221
              cases e221
              replace hx221_0 := (HB.out.cell (World.block_lt_of_cell? w _ hx221_0)).trans hx221_0
              replace hx221_1 := (HB.out.cell (World.block_lt_of_cell? w _ hx221_1)).trans hx221_1
              replace hx221_2 := (HB.out.cell (World.block_lt_of_cell? w _ hx221_2)).trans hx221_2
              replace hx221_3 := (HB.out.cell (World.block_lt_of_cell? w _ hx221_3)).trans hx221_3
              replace hx221_4 := (HB.out.cell (World.block_lt_of_cell? w _ hx221_4)).trans hx221_4
              replace hx221_5 := (HB.out.cell (World.block_lt_of_cell? w _ hx221_5)).trans hx221_5
              replace hx221_6 := (HB.out.cell (World.block_lt_of_cell? w _ hx221_6)).trans hx221_6
              replace hx221_7 := (HB.out.cell (World.block_lt_of_cell? w _ hx221_7)).trans hx221_7
              replace p221 := eq_true p221
              replace q221 := eq_true q221
              go_wp2_with (first | ((with_reducible refine gate_dst (N := 7) rfl ?_); refine box_event ?hg (N := 7) ?hd (cs := #[.int .u32 0, .string (⟨#[]⟩ : ByteArray), .int .i64 0, .string (⟨#[]⟩ : ByteArray), .int .u64 0, .string (⟨#[]⟩ : ByteArray), .int .i64 0, .int .i64 0]) (t := 28) ?hr ?_; (case hd => rfl); (case hg => rfl); (case hr => first | (go_simp; done) | (go_simp; rfl)); intro gb222 hg w9 hbox hb; have n0_ := Aside0.mk (blk_below (g := gb219) (o := .cells #[.int .u32 a1_0, .string a1_1] 25 (0, 0)) (by (with_reducible repeat (first | refine blk_drewN ?_ _ | refine blk_drew ?_ | refine blk_alloc ?_ _)); exact BK219.out) hb); have n1_ := Aside0.mk (blk_below (g := gb220) (o := .cells #[.int .u32 x221000_1, .string x221001_1, .int .i64 x221002_1, .string x221003_1, .int .u64 x221004_1, .string x221005_1, .int .i64 x221006_1, .int .i64 x221007_1] 28 (0, 0)) (by (with_reducible repeat (first | refine blk_drewN ?_ _ | refine blk_drew ?_ | refine blk_alloc ?_ _)); exact BK220.out) hb); have n2_ := Aside0.mk (below_step (by repeat (first | (with_reducible first | exact HB.out | apply below_alloc | apply pw_below_drewN | apply below_drew1 | refine below_set ?_ GE219.out | refine below_set ?_ GE220.out) | exact HB.out)) hb); have n3_ := Aside0.mk (hbox); have n4_ := Aside0.mk ((by rw [hg]; exact (below_size (by repeat (first | (with_reducible first | exact HB.out | apply below_alloc | apply pw_below_drewN | apply below_drew1 | refine below_set ?_ GE219.out | refine below_set ?_ GE220.out) | exact HB.out))) : w.heap.size ≤ gb222)); have n5_ := Aside0.mk ((by rw [hg]; exact (below_size (by repeat (first | (with_reducible first | exact HB.out | apply below_alloc | apply pw_below_drewN | apply below_drew1 | refine below_set ?_ GE219.out | refine below_set ?_ GE220.out) | exact HB.out))) : w.heap.size ≤ gb222)); have n6_ := Aside0.mk ((by rw [hg]; exact Nat.ne_of_lt (blk_lt (g := gb219) (o := .cells #[.int .u32 a1_0, .string a1_1] 25 (0, 0)) (by (with_reducible repeat (first | refine blk_drewN ?_ _ | refine blk_drew ?_ | refine blk_alloc ?_ _)); exact BK219.out)) : gb219 ≠ gb222)); have n7_ := Aside0.mk ((by rw [hg]; exact Nat.ne_of_gt (blk_lt (g := gb219) (o := .cells #[.int .u32 a1_0, .string a1_1] 25 (0, 0)) (by (with_reducible repeat (first | refine blk_drewN ?_ _ | refine blk_drew ?_ | refine blk_alloc ?_ _)); exact BK219.out)) : gb222 ≠ gb219)); have n8_ := Aside0.mk ((by rw [hg]; exact Nat.ne_of_lt (blk_lt (g := gb220) (o := .cells #[.int .u32 x221000_1, .string x221001_1, .int .i64 x221002_1, .string x221003_1, .int .u64 x221004_1, .string x221005_1, .int .i64 x221006_1, .int .i64 x221007_1] 28 (0, 0)) (by (with_reducible repeat (first | refine blk_drewN ?_ _ | refine blk_drew ?_ | refine blk_alloc ?_ _)); exact BK220.out)) : gb220 ≠ gb222)); have n9_ := Aside0.mk ((by rw [hg]; exact Nat.ne_of_gt (blk_lt (g := gb220) (o := .cells #[.int .u32 x221000_1, .string x221001_1, .int .i64 x221002_1, .string x221003_1, .int .u64 x221004_1, .string x221005_1, .int .i64 x221006_1, .int .i64 x221007_1] 28 (0, 0)) (by (with_reducible repeat (first | refine blk_drewN ?_ _ | refine blk_drew ?_ | refine blk_alloc ?_ _)); exact BK220.out)) : gb222 ≠ gb220)); clear BK219; clear BK220; clear HB; have BK219 := n0_; have BK220 := n1_; have HB := n2_; have BK222 := n3_; have GW222 := n4_; have GE222 := n5_; have NB219_222 := n6_; have NB222_219 := n7_; have NB220_222 := n8_; have NB222_220 := n9_; clear n0_ n1_ n2_ n3_ n4_ n5_ n6_ n7_ n8_ n9_; clear hb hbox hg; have hnb10 := NB222_219.out; have hnc10 := NB219_222.out; have hnb11 := NB222_220.out; have hnc11 := NB220_222.out; have hcz12_0 : w9.cell? ⟨gb222, 0, none⟩ = some (.int .u32 0) := (blk_cell BK222.out 0).trans rfl; have hcz12_1 : w9.cell? ⟨gb222, 1, none⟩ = some (.string (⟨#[]⟩ : ByteArray)) := (blk_cell BK222.out 1).trans rfl; have hcz12_2 : w9.cell? ⟨gb222, 2, none⟩ = some (.int .i64 0) := (blk_cell BK222.out 2).trans rfl; have hcz12_3 : w9.cell? ⟨gb222, 3, none⟩ = some (.string (⟨#[]⟩ : ByteArray)) := (blk_cell BK222.out 3).trans rfl; have hcz12_4 : w9.cell? ⟨gb222, 4, none⟩ = some (.int .u64 0) := (blk_cell BK222.out 4).trans rfl; have hcz12_5 : w9.cell? ⟨gb222, 5, none⟩ = some (.string (⟨#[]⟩ : ByteArray)) := (blk_cell BK222.out 5).trans rfl; have hcz12_6 : w9.cell? ⟨gb222, 6, none⟩ = some (.int .i64 0) := (blk_cell BK222.out 6).trans rfl; have hcz12_7 : w9.cell? ⟨gb222, 7, none⟩ = some (.int .i64 0) := (blk_cell BK222.out 7).trans rfl; have hfz12_0 := blk_frozen BK222.out 0; have hfz12_1 := blk_frozen BK222.out 1; have hfz12_2 := blk_frozen BK222.out 2; have hfz12_3 := blk_frozen BK222.out 3; have hfz12_4 := blk_frozen BK222.out 4; have hfz12_5 := blk_frozen BK222.out 5; have hfz12_6 := blk_frozen BK222.out 6; have hfz12_7 := blk_frozen BK222.out 7; have hnb13 := NB219_220.out; have hnc13 := NB220_219.out; have hcz14_0 : w9.cell? ⟨gb219, 0, none⟩ = some (.int .u32 a1_0) := (blk_cell BK219.out 0).trans rfl; have hcz14_1 : w9.cell? ⟨gb219, 1, none⟩ = some (.string a1_1) := (blk_cell BK219.out 1).trans rfl; have hfz14_0 := blk_frozen BK219.out 0; have hfz14_1 := blk_frozen BK219.out 1; have hcz15_0 : w9.cell? ⟨gb220, 0, none⟩ = some (.int .u32 x221000_1) := (blk_cell BK220.out 0).trans rfl; have hcz15_1 : w9.cell? ⟨gb220, 1, none⟩ = some (.string x221001_1) := (blk_cell BK220.out 1).trans rfl; have hcz15_2 : w9.cell? ⟨gb220, 2, none⟩ = some (.int .i64 x221002_1) := (blk_cell BK220.out 2).trans rfl; have hcz15_3 : w9.cell? ⟨gb220, 3, none⟩ = some (.string x221003_1) := (blk_cell BK220.out 3).trans rfl; have hcz15_4 : w9.cell? ⟨gb220, 4, none⟩ = some (.int .u64 x221004_1) := (blk_cell BK220.out 4).trans rfl; have hcz15_5 : w9.cell? ⟨gb220, 5, none⟩ = some (.string x221005_1) := (blk_cell BK220.out 5).trans rfl; have hcz15_6 : w9.cell? ⟨gb220, 6, none⟩ = some (.int .i64 x221006_1) := (blk_cell BK220.out 6).trans rfl; have hcz15_7 : w9.cell? ⟨gb220, 7, none⟩ = some (.int .i64 x221007_1) := (blk_cell BK220.out 7).trans rfl; have hfz15_0 := blk_frozen BK220.out 0; have hfz15_1 := blk_frozen BK220.out 1; have hfz15_2 := blk_frozen BK220.out 2; have hfz15_3 := blk_frozen BK220.out 3; have hfz15_4 := blk_frozen BK220.out 4; have hfz15_5 := blk_frozen BK220.out 5; have hfz15_6 := blk_frozen BK220.out 6; have hfz15_7 := blk_frozen BK220.out 7))
              refine bodyPost_ret (results_ct rfl _ _ gb220 28 #[.int .u32 ((rd_T28 l0 x10_1).f0.f0), .string ((rd_T28 l0 x10_1).f0.f1), .int .i64 ((rd_T28 l0 x10_1).f1), .string ((rd_T28 l0 x10_1).f2), .int .u64 ((rd_T28 l0 x10_1).f3), .string ((rd_T28 l0 x10_1).f4), .int .i64 ((rd_T28 l0 x10_1).f5), .int .i64 ((rd_T28 l0 x10_1).f6)] (0, 0) _ rfl (by (with_reducible repeat (first | refine blk_drewN ?_ _ | refine blk_drew ?_ | refine blk_alloc ?_ _)); refine blk_put (cs := #[.int .u32 ((rd_T28 l0 x10_1).f0.f0), .string ((rd_T28 l0 x10_1).f0.f1), .int .i64 ((rd_T28 l0 x10_1).f1), .string ((rd_T28 l0 x10_1).f2), .int .u64 ((rd_T28 l0 x10_1).f3), .string ((rd_T28 l0 x10_1).f4), .int .i64 ((rd_T28 l0 x10_1).f5), .int .i64 x221007_1]) ?_ 7 _ rfl; (with_reducible repeat (first | refine blk_drewN ?_ _ | refine blk_drew ?_ | refine blk_alloc ?_ _)); refine blk_put (cs := #[.int .u32 ((rd_T28 l0 x10_1).f0.f0), .string ((rd_T28 l0 x10_1).f0.f1), .int .i64 ((rd_T28 l0 x10_1).f1), .string ((rd_T28 l0 x10_1).f2), .int .u64 ((rd_T28 l0 x10_1).f3), .string ((rd_T28 l0 x10_1).f4), .int .i64 x221006_1, .int .i64 x221007_1]) ?_ 6 _ rfl; (with_reducible repeat (first | refine blk_drewN ?_ _ | refine blk_drew ?_ | refine blk_alloc ?_ _)); refine blk_put (cs := #[.int .u32 ((rd_T28 l0 x10_1).f0.f0), .string ((rd_T28 l0 x10_1).f0.f1), .int .i64 ((rd_T28 l0 x10_1).f1), .string ((rd_T28 l0 x10_1).f2), .int .u64 ((rd_T28 l0 x10_1).f3), .string x221005_1, .int .i64 x221006_1, .int .i64 x221007_1]) ?_ 5 _ rfl; (with_reducible repeat (first | refine blk_drewN ?_ _ | refine blk_drew ?_ | refine blk_alloc ?_ _)); refine blk_put (cs := #[.int .u32 ((rd_T28 l0 x10_1).f0.f0), .string ((rd_T28 l0 x10_1).f0.f1), .int .i64 ((rd_T28 l0 x10_1).f1), .string ((rd_T28 l0 x10_1).f2), .int .u64 x221004_1, .string x221005_1, .int .i64 x221006_1, .int .i64 x221007_1]) ?_ 4 _ rfl; (with_reducible repeat (first | refine blk_drewN ?_ _ | refine blk_drew ?_ | refine blk_alloc ?_ _)); refine blk_put (cs := #[.int .u32 ((rd_T28 l0 x10_1).f0.f0), .string ((rd_T28 l0 x10_1).f0.f1), .int .i64 ((rd_T28 l0 x10_1).f1), .string x221003_1, .int .u64 x221004_1, .string x221005_1, .int .i64 x221006_1, .int .i64 x221007_1]) ?_ 3 _ rfl; (with_reducible repeat (first | refine blk_drewN ?_ _ | refine blk_drew ?_ | refine blk_alloc ?_ _)); refine blk_put (cs := #[.int .u32 ((rd_T28 l0 x10_1).f0.f0), .string ((rd_T28 l0 x10_1).f0.f1), .int .i64 x221002_1, .string x221003_1, .int .u64 x221004_1, .string x221005_1, .int .i64 x221006_1, .int .i64 x221007_1]) ?_ 2 _ rfl; (with_reducible repeat (first | refine blk_drewN ?_ _ | refine blk_drew ?_ | refine blk_alloc ?_ _)); refine blk_put (cs := #[.int .u32 ((rd_T28 l0 x10_1).f0.f0), .string x221001_1, .int .i64 x221002_1, .string x221003_1, .int .u64 x221004_1, .string x221005_1, .int .i64 x221006_1, .int .i64 x221007_1]) ?_ 1 _ rfl; (with_reducible repeat (first | refine blk_drewN ?_ _ | refine blk_drew ?_ | refine blk_alloc ?_ _)); refine blk_put (cs := #[.int .u32 x221000_1, .string x221001_1, .int .i64 x221002_1, .string x221003_1, .int .u64 x221004_1, .string x221005_1, .int .i64 x221006_1, .int .i64 x221007_1]) ?_ 0 _ rfl; (with_reducible repeat (first | refine blk_drewN ?_ _ | refine blk_drew ?_ | refine blk_alloc ?_ _)); refine blk_far ?_ NB220_222.out _; (with_reducible repeat (first | refine blk_drewN ?_ _ | refine blk_drew ?_ | refine blk_alloc ?_ _)); refine blk_far ?_ NB220_222.out _; (with_reducible repeat (first | refine blk_drewN ?_ _ | refine blk_drew ?_ | refine blk_alloc ?_ _)); refine blk_far ?_ NB220_222.out _; (with_reducible repeat (first | refine blk_drewN ?_ _ | refine blk_drew ?_ | refine blk_alloc ?_ _)); refine blk_far ?_ NB220_222.out _; (with_reducible repeat (first | refine blk_drewN ?_ _ | refine blk_drew ?_ | refine blk_alloc ?_ _)); refine blk_far ?_ NB220_222.out _; (with_reducible repeat (first | refine blk_drewN ?_ _ | refine blk_drew ?_ | refine blk_alloc ?_ _)); refine blk_far ?_ NB220_222.out _; (with_reducible repeat (first | refine blk_drewN ?_ _ | refine blk_drew ?_ | refine blk_alloc ?_ _)); refine blk_far ?_ NB220_222.out _; (with_reducible repeat (first | refine blk_drewN ?_ _ | refine blk_drew ?_ | refine blk_alloc ?_ _)); refine blk_far ?_ NB220_222.out _; (with_reducible repeat (first | refine blk_drewN ?_ _ | refine blk_drew ?_ | refine blk_alloc ?_ _)); exact BK220.out) Tryd.underlying28 rfl (by kernel_rfl)) rfl ?_
              exact ⟨by first | rfl | (simp [errW_none, errW_some] <;> rfl) | (simp [*, errW_none, errW_some] <;> rfl), by repeat (first | (with_reducible first | exact HB.out | apply below_alloc | apply pw_below_drewN | apply below_drew1 | refine below_set ?_ GE219.out | refine below_set ?_ GE220.out | refine below_set ?_ GE222.out) | exact HB.out)⟩
            · rw [if_neg c8] at H
              have c8b0 : (((rd_T28 l0 x10_1).f0.f0) == a1_0 && ((((rd_T28 l0 x10_1).f0.f1).toList) == a1_1.toList)) = false := by simpa using c8
              (try (have c8b1 : decide (((rd_T28 l0 x10_1).f0.f0) = a1_0 && ((((rd_T28 l0 x10_1).f0.f1).toList) == a1_1.toList)) = false := by simpa using c8))
              (try (have c8b2 : (((rd_T28 l0 x10_1).f0.f0) == a1_0 && ((((rd_T28 l0 x10_1).f0.f1).toList) == a1_1.toList)) = false := by simpa using c8))
              (try (have c8b3 : ¬ (((rd_T28 l0 x10_1).f0.f0) = a1_0 && ((((rd_T28 l0 x10_1).f0.f1).toList) == a1_1.toList)) := by simpa using c8))
              clear c8
              have H' := Aside0.mk H
              clear H
              have p221 : 0 ≤ (x10_1 : Int) := of_decide_eq_true (by first | (with_reducible assumption) | assumption)
              have q221 : x10_1 < (l0.length : Int) := of_decide_eq_true (by first | (with_reducible assumption) | assumption)
              obtain ⟨ad221, e221, hx221_0, hx221_1, hx221_2, hx221_3, hx221_4, hx221_5, hx221_6, hx221_7⟩ := at_T28 HR0.out x10_1 p221 q221
              cases e221
              replace hx221_0 := (HB.out.cell (World.block_lt_of_cell? w _ hx221_0)).trans hx221_0
              replace hx221_1 := (HB.out.cell (World.block_lt_of_cell? w _ hx221_1)).trans hx221_1
              replace hx221_2 := (HB.out.cell (World.block_lt_of_cell? w _ hx221_2)).trans hx221_2
              replace hx221_3 := (HB.out.cell (World.block_lt_of_cell? w _ hx221_3)).trans hx221_3
              replace hx221_4 := (HB.out.cell (World.block_lt_of_cell? w _ hx221_4)).trans hx221_4
              replace hx221_5 := (HB.out.cell (World.block_lt_of_cell? w _ hx221_5)).trans hx221_5
              replace hx221_6 := (HB.out.cell (World.block_lt_of_cell? w _ hx221_6)).trans hx221_6
              replace hx221_7 := (HB.out.cell (World.block_lt_of_cell? w _ hx221_7)).trans hx221_7
              replace p221 := eq_true p221
              replace q221 := eq_true q221
              go_wp2_with (first | ((with_reducible refine gate_dst (N := 7) rfl ?_); refine box_event ?hg (N := 7) ?hd (cs := #[.int .u32 0, .string (⟨#[]⟩ : ByteArray), .int .i64 0, .string (⟨#[]⟩ : ByteArray), .int .u64 0, .string (⟨#[]⟩ : ByteArray), .int .i64 0, .int .i64 0]) (t := 28) ?hr ?_; (case hd => rfl); (case hg => rfl); (case hr => first | (go_simp; done) | (go_simp; rfl)); intro gb222 hg w16 hbox hb; have n0_ := Aside0.mk (blk_below (g := gb219) (o := .cells #[.int .u32 a1_0, .string a1_1] 25 (0, 0)) (by (with_reducible repeat (first | refine blk_drewN ?_ _ | refine blk_drew ?_ | refine blk_alloc ?_ _)); exact BK219.out) hb); have n1_ := Aside0.mk (blk_below (g := gb220) (o := .cells #[.int .u32 x221000_1, .string x221001_1, .int .i64 x221002_1, .string x221003_1, .int .u64 x221004_1, .string x221005_1, .int .i64 x221006_1, .int .i64 x221007_1] 28 (0, 0)) (by (with_reducible repeat (first | refine blk_drewN ?_ _ | refine blk_drew ?_ | refine blk_alloc ?_ _)); exact BK220.out) hb); have n2_ := Aside0.mk (below_step (by repeat (first | (with_reducible first | exact HB.out | apply below_alloc | apply pw_below_drewN | apply below_drew1 | refine below_set ?_ GE219.out | refine below_set ?_ GE220.out) | exact HB.out)) hb); have n3_ := Aside0.mk (hbox); have n4_ := Aside0.mk ((by rw [hg]; exact (below_size (by repeat (first | (with_reducible first | exact HB.out | apply below_alloc | apply pw_below_drewN | apply below_drew1 | refine below_set ?_ GE219.out | refine below_set ?_ GE220.out) | exact HB.out))) : w.heap.size ≤ gb222)); have n5_ := Aside0.mk ((by rw [hg]; exact (below_size (by repeat (first | (with_reducible first | exact HB.out | apply below_alloc | apply pw_below_drewN | apply below_drew1 | refine below_set ?_ GE219.out | refine below_set ?_ GE220.out) | exact HB.out))) : w.heap.size ≤ gb222)); have n6_ := Aside0.mk ((by rw [hg]; exact Nat.ne_of_lt (blk_lt (g := gb219) (o := .cells #[.int .u32 a1_0, .string a1_1] 25 (0, 0)) (by (with_reducible repeat (first | refine blk_drewN ?_ _ | refine blk_drew ?_ | refine blk_alloc ?_ _)); exact BK219.out)) : gb219 ≠ gb222)); have n7_ := Aside0.mk ((by rw [hg]; exact Nat.ne_of_gt (blk_lt (g := gb219) (o := .cells #[.int .u32 a1_0, .string a1_1] 25 (0, 0)) (by (with_reducible repeat (first | refine blk_drewN ?_ _ | refine blk_drew ?_ | refine blk_alloc ?_ _)); exact BK219.out)) : gb222 ≠ gb219)); have n8_ := Aside0.mk ((by rw [hg]; exact Nat.ne_of_lt (blk_lt (g := gb220) (o := .cells #[.int .u32 x221000_1, .string x221001_1, .int .i64 x221002_1, .string x221003_1, .int .u64 x221004_1, .string x221005_1, .int .i64 x221006_1, .int .i64 x221007_1] 28 (0, 0)) (by (with_reducible repeat (first | refine blk_drewN ?_ _ | refine blk_drew ?_ | refine blk_alloc ?_ _)); exact BK220.out)) : gb220 ≠ gb222)); have n9_ := Aside0.mk ((by rw [hg]; exact Nat.ne_of_gt (blk_lt (g := gb220) (o := .cells #[.int .u32 x221000_1, .string x221001_1, .int .i64 x221002_1, .string x221003_1, .int .u64 x221004_1, .string x221005_1, .int .i64 x221006_1, .int .i64 x221007_1] 28 (0, 0)) (by (with_reducible repeat (first | refine blk_drewN ?_ _ | refine blk_drew ?_ | refine blk_alloc ?_ _)); exact BK220.out)) : gb222 ≠ gb220)); clear BK219; clear BK220; clear HB; have BK219 := n0_; have BK220 := n1_; have HB := n2_; have BK222 := n3_; have GW222 := n4_; have GE222 := n5_; have NB219_222 := n6_; have NB222_219 := n7_; have NB220_222 := n8_; have NB222_220 := n9_; clear n0_ n1_ n2_ n3_ n4_ n5_ n6_ n7_ n8_ n9_; clear hb hbox hg; have hnb17 := NB222_219.out; have hnc17 := NB219_222.out; have hnb18 := NB222_220.out; have hnc18 := NB220_222.out; have hcz19_0 : w16.cell? ⟨gb222, 0, none⟩ = some (.int .u32 0) := (blk_cell BK222.out 0).trans rfl; have hcz19_1 : w16.cell? ⟨gb222, 1, none⟩ = some (.string (⟨#[]⟩ : ByteArray)) := (blk_cell BK222.out 1).trans rfl; have hcz19_2 : w16.cell? ⟨gb222, 2, none⟩ = some (.int .i64 0) := (blk_cell BK222.out 2).trans rfl; have hcz19_3 : w16.cell? ⟨gb222, 3, none⟩ = some (.string (⟨#[]⟩ : ByteArray)) := (blk_cell BK222.out 3).trans rfl; have hcz19_4 : w16.cell? ⟨gb222, 4, none⟩ = some (.int .u64 0) := (blk_cell BK222.out 4).trans rfl; have hcz19_5 : w16.cell? ⟨gb222, 5, none⟩ = some (.string (⟨#[]⟩ : ByteArray)) := (blk_cell BK222.out 5).trans rfl; have hcz19_6 : w16.cell? ⟨gb222, 6, none⟩ = some (.int .i64 0) := (blk_cell BK222.out 6).trans rfl; have hcz19_7 : w16.cell? ⟨gb222, 7, none⟩ = some (.int .i64 0) := (blk_cell BK222.out 7).trans rfl; have hfz19_0 := blk_frozen BK222.out 0; have hfz19_1 := blk_frozen BK222.out 1; have hfz19_2 := blk_frozen BK222.out 2; have hfz19_3 := blk_frozen BK222.out 3; have hfz19_4 := blk_frozen BK222.out 4; have hfz19_5 := blk_frozen BK222.out 5; have hfz19_6 := blk_frozen BK222.out 6; have hfz19_7 := blk_frozen BK222.out 7; have hnb20 := NB219_220.out; have hnc20 := NB220_219.out; have hcz21_0 : w16.cell? ⟨gb219, 0, none⟩ = some (.int .u32 a1_0) := (blk_cell BK219.out 0).trans rfl; have hcz21_1 : w16.cell? ⟨gb219, 1, none⟩ = some (.string a1_1) := (blk_cell BK219.out 1).trans rfl; have hfz21_0 := blk_frozen BK219.out 0; have hfz21_1 := blk_frozen BK219.out 1))
              go_roundg k1
              case measure => have := HK1.out; omega
              case rel => exact ⟨(wrap64 (x10_1 + 1)), (x221000_1), (x221001_1), (x221002_1), (x221003_1), (x221004_1), (x221005_1), (x221006_1), (x221007_1), (by first | rfl | (simp; done) | (simp [*]; done)), H', ⟨by have := HK1.out; omega⟩, ⟨by (with_reducible repeat (first | refine blk_drewN ?_ _ | refine blk_drew ?_ | refine blk_alloc ?_ _)); refine blk_far ?_ NB219_222.out _; (with_reducible repeat (first | refine blk_drewN ?_ _ | refine blk_drew ?_ | refine blk_alloc ?_ _)); refine blk_far ?_ NB219_222.out _; (with_reducible repeat (first | refine blk_drewN ?_ _ | refine blk_drew ?_ | refine blk_alloc ?_ _)); refine blk_far ?_ NB219_222.out _; (with_reducible repeat (first | refine blk_drewN ?_ _ | refine blk_drew ?_ | refine blk_alloc ?_ _)); refine blk_far ?_ NB219_222.out _; (with_reducible repeat (first | refine blk_drewN ?_ _ | refine blk_drew ?_ | refine blk_alloc ?_ _)); refine blk_far ?_ NB219_222.out _; (with_reducible repeat (first | refine blk_drewN ?_ _ | refine blk_drew ?_ | refine blk_alloc ?_ _)); refine blk_far ?_ NB219_222.out _; (with_reducible repeat (first | refine blk_drewN ?_ _ | refine blk_drew ?_ | refine blk_alloc ?_ _)); refine blk_far ?_ NB219_222.out _; (with_reducible repeat (first | refine blk_drewN ?_ _ | refine blk_drew ?_ | refine blk_alloc ?_ _)); refine blk_far ?_ NB219_222.out _; (with_reducible repeat (first | refine blk_drewN ?_ _ | refine blk_drew ?_ | refine blk_alloc ?_ _)); exact BK219.out⟩, ⟨by (with_reducible repeat (first | refine blk_drewN ?_ _ | refine blk_drew ?_ | refine blk_alloc ?_ _)); refine blk_far ?_ NB220_222.out _; (with_reducible repeat (first | refine blk_drewN ?_ _ | refine blk_drew ?_ | refine blk_alloc ?_ _)); refine blk_far ?_ NB220_222.out _; (with_reducible repeat (first | refine blk_drewN ?_ _ | refine blk_drew ?_ | refine blk_alloc ?_ _)); refine blk_far ?_ NB220_222.out _; (with_reducible repeat (first | refine blk_drewN ?_ _ | refine blk_drew ?_ | refine blk_alloc ?_ _)); refine blk_far ?_ NB220_222.out _; (with_reducible repeat (first | refine blk_drewN ?_ _ | refine blk_drew ?_ | refine blk_alloc ?_ _)); refine blk_far ?_ NB220_222.out _; (with_reducible repeat (first | refine blk_drewN ?_ _ | refine blk_drew ?_ | refine blk_alloc ?_ _)); refine blk_far ?_ NB220_222.out _; (with_reducible repeat (first | refine blk_drewN ?_ _ | refine blk_drew ?_ | refine blk_alloc ?_ _)); refine blk_far ?_ NB220_222.out _; (with_reducible repeat (first | refine blk_drewN ?_ _ | refine blk_drew ?_ | refine blk_alloc ?_ _)); refine blk_far ?_ NB220_222.out _; (with_reducible repeat (first | refine blk_drewN ?_ _ | refine blk_drew ?_ | refine blk_alloc ?_ _)); exact BK220.out⟩, ⟨by repeat (first | (with_reducible first | exact HB.out | apply below_alloc | apply pw_below_drewN | apply below_drew1 | refine below_set ?_ GE219.out | refine below_set ?_ GE220.out | refine below_set ?_ GE222.out) | exact HB.out)⟩⟩
          · rw [if_neg c7] at H
            exact absurd H (by simp)
        · rw [if_neg c6] at H
          exact absurd H (by simp)
      · rw [if_neg c5] at H
        have c5b0 : decide (x10_1 < (l0.length : Int)) = false := decide_eq_false c5
        clear c5
        simp only [Option.some.injEq, Prod.mk.injEq] at H
        obtain ⟨rfl, rfl, rfl, rfl, rfl, rfl, rfl, rfl, rfl⟩ := H
        have hnb22 := NB220_219.out
        have hnc22 := NB219_220.out
        have hcz23_0 : wr.cell? ⟨gb220, 0, none⟩ = some (.int .u32 x221000_1) := (blk_cell BK220.out 0).trans rfl
        have hcz23_1 : wr.cell? ⟨gb220, 1, none⟩ = some (.string x221001_1) := (blk_cell BK220.out 1).trans rfl
        have hcz23_2 : wr.cell? ⟨gb220, 2, none⟩ = some (.int .i64 x221002_1) := (blk_cell BK220.out 2).trans rfl
        have hcz23_3 : wr.cell? ⟨gb220, 3, none⟩ = some (.string x221003_1) := (blk_cell BK220.out 3).trans rfl
        have hcz23_4 : wr.cell? ⟨gb220, 4, none⟩ = some (.int .u64 x221004_1) := (blk_cell BK220.out 4).trans rfl
        have hcz23_5 : wr.cell? ⟨gb220, 5, none⟩ = some (.string x221005_1) := (blk_cell BK220.out 5).trans rfl
        have hcz23_6 : wr.cell? ⟨gb220, 6, none⟩ = some (.int .i64 x221006_1) := (blk_cell BK220.out 6).trans rfl
        have hcz23_7 : wr.cell? ⟨gb220, 7, none⟩ = some (.int .i64 x221007_1) := (blk_cell BK220.out 7).trans rfl
        have hfz23_0 := blk_frozen BK220.out 0
        have hfz23_1 := blk_frozen BK220.out 1
        have hfz23_2 := blk_frozen BK220.out 2
        have hfz23_3 := blk_frozen BK220.out 3
        have hfz23_4 := blk_frozen BK220.out 4
        have hfz23_5 := blk_frozen BK220.out 5
        have hfz23_6 := blk_frozen BK220.out 6
        have hfz23_7 := blk_frozen BK220.out 7
        go_wp2
        refine bodyPost_ret (results_ct rfl _ _ gb220 28 #[.int .u32 0, .string (⟨#[]⟩ : ByteArray), .int .i64 0, .string (⟨#[]⟩ : ByteArray), .int .u64 0, .string (⟨#[]⟩ : ByteArray), .int .i64 0, .int .i64 0] (0, 0) _ rfl (by (with_reducible repeat (first | refine blk_drewN ?_ _ | refine blk_drew ?_ | refine blk_alloc ?_ _)); refine blk_put (cs := #[.int .u32 0, .string (⟨#[]⟩ : ByteArray), .int .i64 0, .string (⟨#[]⟩ : ByteArray), .int .u64 0, .string (⟨#[]⟩ : ByteArray), .int .i64 0, .int .i64 x221007_1]) ?_ 7 _ rfl; (with_reducible repeat (first | refine blk_drewN ?_ _ | refine blk_drew ?_ | refine blk_alloc ?_ _)); refine blk_put (cs := #[.int .u32 0, .string (⟨#[]⟩ : ByteArray), .int .i64 0, .string (⟨#[]⟩ : ByteArray), .int .u64 0, .string (⟨#[]⟩ : ByteArray), .int .i64 x221006_1, .int .i64 x221007_1]) ?_ 6 _ rfl; (with_reducible repeat (first | refine blk_drewN ?_ _ | refine blk_drew ?_ | refine blk_alloc ?_ _)); refine blk_put (cs := #[.int .u32 0, .string (⟨#[]⟩ : ByteArray), .int .i64 0, .string (⟨#[]⟩ : ByteArray), .int .u64 0, .string x221005_1, .int .i64 x221006_1, .int .i64 x221007_1]) ?_ 5 _ rfl; (with_reducible repeat (first | refine blk_drewN ?_ _ | refine blk_drew ?_ | refine blk_alloc ?_ _)); refine blk_put (cs := #[.int .u32 0, .string (⟨#[]⟩ : ByteArray), .int .i64 0, .string (⟨#[]⟩ : ByteArray), .int .u64 x221004_1, .string x221005_1, .int .i64 x221006_1, .int .i64 x221007_1]) ?_ 4 _ rfl; (with_reducible repeat (first | refine blk_drewN ?_ _ | refine blk_drew ?_ | refine blk_alloc ?_ _)); refine blk_put (cs := #[.int .u32 0, .string (⟨#[]⟩ : ByteArray), .int .i64 0, .string x221003_1, .int .u64 x221004_1, .string x221005_1, .int .i64 x221006_1, .int .i64 x221007_1]) ?_ 3 _ rfl; (with_reducible repeat (first | refine blk_drewN ?_ _ | refine blk_drew ?_ | refine blk_alloc ?_ _)); refine blk_put (cs := #[.int .u32 0, .string (⟨#[]⟩ : ByteArray), .int .i64 x221002_1, .string x221003_1, .int .u64 x221004_1, .string x221005_1, .int .i64 x221006_1, .int .i64 x221007_1]) ?_ 2 _ rfl; (with_reducible repeat (first | refine blk_drewN ?_ _ | refine blk_drew ?_ | refine blk_alloc ?_ _)); refine blk_put (cs := #[.int .u32 0, .string x221001_1, .int .i64 x221002_1, .string x221003_1, .int .u64 x221004_1, .string x221005_1, .int .i64 x221006_1, .int .i64 x221007_1]) ?_ 1 _ rfl; (with_reducible repeat (first | refine blk_drewN ?_ _ | refine blk_drew ?_ | refine blk_alloc ?_ _)); refine blk_put (cs := #[.int .u32 x221000_1, .string x221001_1, .int .i64 x221002_1, .string x221003_1, .int .u64 x221004_1, .string x221005_1, .int .i64 x221006_1, .int .i64 x221007_1]) ?_ 0 _ rfl; (with_reducible repeat (first | refine blk_drewN ?_ _ | refine blk_drew ?_ | refine blk_alloc ?_ _)); exact BK220.out) Tryd.underlying28 rfl (by kernel_rfl)) rfl ?_
        exact ⟨by first | rfl | (simp [errW_none, errW_some] <;> rfl) | (simp [*, errW_none, errW_some] <;> rfl), by repeat (first | (with_reducible first | exact HB.out | apply below_alloc | apply pw_below_drewN | apply below_drew1 | refine below_set ?_ GE219.out | refine below_set ?_ GE220.out) | exact HB.out)⟩
def paydeskref10_Place.l0 : Nat → List (S28) → Int → Int → ByteArray → Option (Int)
  | 0, _, _, _, _ => none
  | k + 1, x0, x5, x224000, x224001 => if x5 < (x0.length : Int) then (if 0 ≤ x5 then (if (((rd_T28 x0 x5).f0.f0) == x224000 && ((((rd_T28 x0 x5).f0.f1).toList) == x224001.toList)) = true then (some x5) else (paydeskref10_Place.l0 k x0 (wrap64 (x5 + 1)) x224000 x224001)) else (none)) else (some (-1))
def paydeskref10_Place.f (k : Nat) (l0 : List (S28)) (a1_0 : Int) (a1_1 : ByteArray) : Option (Int) := paydeskref10_Place.l0 k l0 0 a1_0 a1_1
theorem paydeskref10_Place.mono_l : ∀ k, (∀ y0 y1 y2 y3, LeO (paydeskref10_Place.l0 k y0 y1 y2 y3) (paydeskref10_Place.l0 (k + 1) y0 y1 y2 y3))
  | 0 => fun _ _ _ _ r h => by simp [paydeskref10_Place.l0] at h
  | k + 1 => by
    have ih0 := paydeskref10_Place.mono_l k
    · intro y0 y1 y2 y3
      unfold paydeskref10_Place.l0
      repeat' first
      | (with_reducible exact ih0 _ _ _ _)
      | (with_reducible exact LeO.refl _)
      | (with_reducible exact LeO.none _)
      | (with_reducible refine LeO.ite ?_ ?_)
      | (with_reducible refine LeO.bind ?_ (fun _ => ?_))
      | exact ih0 _ _ _ _
      | exact LeO.none _
      | refine LeO.ite ?_ ?_
      | refine LeO.bind ?_ (fun _ => ?_)
theorem paydeskref10_Place.mono : ∀ a0 a1 a2 k, LeO (paydeskref10_Place.f k a0 a1 a2) (paydeskref10_Place.f (k + 1) a0 a1 a2) := by
  intro a0 a1 a2 k
  have ih0 := paydeskref10_Place.mono_l k
  unfold paydeskref10_Place.f
  repeat' first
      | (with_reducible exact ih0 _ _ _ _)
      | (with_reducible exact LeO.refl _)
      | (with_reducible exact LeO.none _)
      | (with_reducible refine LeO.ite ?_ ?_)
      | (with_reducible refine LeO.bind ?_ (fun _ => ?_))
      | exact ih0 _ _ _ _
      | exact LeO.none _
      | refine LeO.ite ?_ ?_
      | refine LeO.bind ?_ (fun _ => ?_)
set_option maxHeartbeats 8000000 in
set_option maxRecDepth 100000 in
theorem paydeskref10_Place.calls (k : Nat) (A0 : Option Addr) (c0 : Nat) (l0 : List (S28)) (a1_0 : Int) (a1_1 : ByteArray) (r : Int) (w : World) (hr0 : Kd.C k28 w A0 l0.length l0) (hc0 : l0.length ≤ c0) (h : paydeskref10_Place.f k l0 a1_0 a1_1 = some r) :
    Calls Tryd.prog 13 #[.slice A0 l0.length c0, .agg #[.int .u32 a1_0, .string a1_1]] w fun e w' => e = .returned (.int .i64 r) ∧ Below w.heap.size w w' := by
  have hu25 := Tryd.underlying25
  have HR0 := Aside0.mk hr0
  have HC0 := Aside0.mk hc0
  clear hr0 hc0
  have HB := Aside0.mk (Below.refl w.heap.size w)
  have H : (paydeskref10_Place.l0 k l0 0 a1_0 a1_1) = some r := h
  clear h
  have H' := Aside0.mk H
  clear H
  go_enter Tryd.func13, Tryd.ntmps13
  go_wp2_with (first | ((with_reducible refine gate_dst (N := 3) rfl ?_); refine box_event ?hg (N := 3) ?hd (cs := #[.int .u32 a1_0, .string a1_1]) (t := 25) ?hr ?_; (case hd => rfl); (case hg => rfl); (case hr => first | (go_simp; done) | (go_simp; rfl)); intro gb223 hg w3 hbox hb; have n0_ := Aside0.mk (below_step (by repeat (first | (with_reducible first | exact HB.out | apply below_alloc | apply pw_below_drewN | apply below_drew1) | exact HB.out)) hb); have n1_ := Aside0.mk (hbox); have n2_ := Aside0.mk ((by rw [hg]; exact (below_size (by repeat (first | (with_reducible first | exact HB.out | apply below_alloc | apply pw_below_drewN | apply below_drew1) | exact HB.out))) : w.heap.size ≤ gb223)); have n3_ := Aside0.mk ((by rw [hg]; exact (below_size (by repeat (first | (with_reducible first | exact HB.out | apply below_alloc | apply pw_below_drewN | apply below_drew1) | exact HB.out))) : w.heap.size ≤ gb223)); clear HB; have HB := n0_; have BK223 := n1_; have GW223 := n2_; have GE223 := n3_; clear n0_ n1_ n2_ n3_; clear hb hbox hg))
  repeat (go_quiet (first | ((with_reducible refine gate_dst (N := 3) rfl ?_); refine box_event ?hg (N := 3) ?hd (cs := #[.int .u32 a1_0, .string a1_1]) (t := 25) ?hr ?_; (case hd => rfl); (case hg => rfl); (case hr => first | (go_simp; done) | (go_simp; rfl)); intro gb223 hg w3 hbox hb; have n0_ := Aside0.mk (below_step (by repeat (first | (with_reducible first | exact HB.out | apply below_alloc | apply pw_below_drewN | apply below_drew1) | exact HB.out)) hb); have n1_ := Aside0.mk (hbox); have n2_ := Aside0.mk ((by rw [hg]; exact (below_size (by repeat (first | (with_reducible first | exact HB.out | apply below_alloc | apply pw_below_drewN | apply below_drew1) | exact HB.out))) : w.heap.size ≤ gb223)); have n3_ := Aside0.mk ((by rw [hg]; exact (below_size (by repeat (first | (with_reducible first | exact HB.out | apply below_alloc | apply pw_below_drewN | apply below_drew1) | exact HB.out))) : w.heap.size ≤ gb223)); clear HB; have HB := n0_; have BK223 := n1_; have GW223 := n2_; have GE223 := n3_; clear n0_ n1_ n2_ n3_; clear hb hbox hg)); try go_wp2_with (first | ((with_reducible refine gate_dst (N := 3) rfl ?_); refine box_event ?hg (N := 3) ?hd (cs := #[.int .u32 a1_0, .string a1_1]) (t := 25) ?hr ?_; (case hd => rfl); (case hg => rfl); (case hr => first | (go_simp; done) | (go_simp; rfl)); intro gb223 hg w3 hbox hb; have n0_ := Aside0.mk (below_step (by repeat (first | (with_reducible first | exact HB.out | apply below_alloc | apply pw_below_drewN | apply below_drew1) | exact HB.out)) hb); have n1_ := Aside0.mk (hbox); have n2_ := Aside0.mk ((by rw [hg]; exact (below_size (by repeat (first | (with_reducible first | exact HB.out | apply below_alloc | apply pw_below_drewN | apply below_drew1) | exact HB.out))) : w.heap.size ≤ gb223)); have n3_ := Aside0.mk ((by rw [hg]; exact (below_size (by repeat (first | (with_reducible first | exact HB.out | apply below_alloc | apply pw_below_drewN | apply below_drew1) | exact HB.out))) : w.heap.size ≤ gb223)); clear HB; have HB := n0_; have BK223 := n1_; have GW223 := n2_; have GE223 := n3_; clear n0_ n1_ n2_ n3_; clear hb hbox hg)))
  go_loopg [5] k (fun kq v5 w' => ∃ (x5_1 : Int), v5 = .int .i64 x5_1 ∧ Aside0 (paydeskref10_Place.l0 kq l0 x5_1 a1_0 a1_1 = some r) ∧ Aside0 (kq ≤ k) ∧ Aside0 (w'.heap[gb223]? = some (.cells #[.int .u32 a1_0, .string a1_1] 25 (0, 0))) ∧ Aside0 (Below w.heap.size w w'))
  case atStart => exact ⟨(0), (by first | rfl | (simp; done) | (simp [*]; done)), H', ⟨Nat.le_refl _⟩, ⟨by (with_reducible repeat (first | refine blk_drewN ?_ _ | refine blk_drew ?_ | refine blk_alloc ?_ _)); exact BK223.out⟩, ⟨by repeat (first | (with_reducible first | exact HB.out | apply below_alloc | apply pw_below_drewN | apply below_drew1 | refine below_set ?_ GE223.out) | exact HB.out)⟩⟩
  case round =>
    clear H'
    try clear c1
    try clear p2
    obtain ⟨x5_1, rfl, HA, HK1, BK223, HB⟩ := hrel
    cases gk with
    | zero => exact absurd HA.out (by simp [paydeskref10_Place.l0])
    | succ k1 =>
      have H := HA.out
      clear HA
      simp only [paydeskref10_Place.l0] at H
      by_cases c4 : x5_1 < (l0.length : Int)
      · rw [if_pos c4] at H
        have c4b0 : decide (x5_1 < (l0.length : Int)) = true := decide_eq_true c4
        clear c4
        by_cases c5 : 0 ≤ x5_1
        · rw [if_pos c5] at H
          have c5b0 : decide (0 ≤ x5_1) = true := decide_eq_true c5
          clear c5
          by_cases c6 : (((rd_T28 l0 x5_1).f0.f0) == a1_0 && ((((rd_T28 l0 x5_1).f0.f1).toList) == a1_1.toList)) = true
          · rw [if_pos c6] at H
            have c6b0 : (((rd_T28 l0 x5_1).f0.f0) == a1_0 && ((((rd_T28 l0 x5_1).f0.f1).toList) == a1_1.toList)) = true := c6
            (try (have c6b1 : decide (((rd_T28 l0 x5_1).f0.f0) = a1_0 && ((((rd_T28 l0 x5_1).f0.f1).toList) == a1_1.toList)) = true := by simpa using c6))
            (try (have c6b2 : (((rd_T28 l0 x5_1).f0.f0) == a1_0 && ((((rd_T28 l0 x5_1).f0.f1).toList) == a1_1.toList)) = true := by simpa using c6))
            clear c6
            obtain rfl := Option.some.inj H
            have p224 : 0 ≤ (x5_1 : Int) := of_decide_eq_true (by first | (with_reducible assumption) | assumption)
            have q224 : x5_1 < (l0.length : Int) := of_decide_eq_true (by first | (with_reducible assumption) | assumption)
            obtain ⟨ad224, e224, hx224_0, hx224_1, hx224_2, hx224_3, hx224_4, hx224_5, hx224_6, hx224_7⟩ := at_T28 HR0.out x5_1 p224 q224
            cases e224
            replace hx224_0 := (HB.out.cell (World.block_lt_of_cell? w _ hx224_0)).trans hx224_0
            replace hx224_1 := (HB.out.cell (World.block_lt_of_cell? w _ hx224_1)).trans hx224_1
            replace hx224_2 := (HB.out.cell (World.block_lt_of_cell? w _ hx224_2)).trans hx224_2
            replace hx224_3 := (HB.out.cell (World.block_lt_of_cell? w _ hx224_3)).trans hx224_3
            replace hx224_4 := (HB.out.cell (World.block_lt_of_cell? w _ hx224_4)).trans hx224_4
            replace hx224_5 := (HB.out.cell (World.block_lt_of_cell? w _ hx224_5)).trans hx224_5
            replace hx224_6 := (HB.out.cell (World.block_lt_of_cell? w _ hx224_6)).trans hx224_6
            replace hx224_7 := (HB.out.cell (World.block_lt_of_cell? w _ hx224_7)).trans hx224_7
            replace p224 := eq_true p224
            replace q224 := eq_true q224
            have hcz7_0 : wr.cell? ⟨gb223, 0, none⟩ = some (.int .u32 a1_0) := (blk_cell BK223.out 0).trans rfl
            have hcz7_1 : wr.cell? ⟨gb223, 1, none⟩ = some (.string a1_1) := (blk_cell BK223.out 1).trans rfl
            have hfz7_0 := blk_frozen BK223.out 0
            have hfz7_1 := blk_frozen BK223.out 1
            go_wp2
            repeat (go_quiet (fail); try go_wp2)
            go_ret
            exact ⟨by first | rfl | (simp [errW_none, errW_some] <;> rfl) | (simp [*, errW_none, errW_some] <;> rfl), by repeat (first | (with_reducible first | exact HB.out | apply below_alloc | apply pw_below_drewN | apply below_drew1 | refine below_set ?_ GE223.out) | exact HB.out)⟩
          · rw [if_neg c6] at H
            have c6b0 : (((rd_T28 l0 x5_1).f0.f0) == a1_0 && ((((rd_T28 l0 x5_1).f0.f1).toList) == a1_1.toList)) = false := by simpa using c6
            (try (have c6b1 : decide (((rd_T28 l0 x5_1).f0.f0) = a1_0 && ((((rd_T28 l0 x5_1).f0.f1).toList) == a1_1.toList)) = false := by simpa using c6))
            (try (have c6b2 : (((rd_T28 l0 x5_1).f0.f0) == a1_0 && ((((rd_T28 l0 x5_1).f0.f1).toList) == a1_1.toList)) = false := by simpa using c6))
            (try (have c6b3 : ¬ (((rd_T28 l0 x5_1).f0.f0) = a1_0 && ((((rd_T28 l0 x5_1).f0.f1).toList) == a1_1.toList)) := by simpa using c6))
            clear c6
            have H' := Aside0.mk H
            clear H
            have p224 : 0 ≤ (x5_1 : Int) := of_decide_eq_true (by first | (with_reducible assumption) | assumption)
            have q224 : x5_1 < (l0.length : Int) := of_decide_eq_true (by first | (with_reducible assumption) | assumption)
            obtain ⟨ad224, e224, hx224_0, hx224_1, hx224_2, hx224_3, hx224_4, hx224_5, hx224_6, hx224_7⟩ := at_T28 HR0.out x5_1 p224 q224
            cases e224
            replace hx224_0 := (HB.out.cell (World.block_lt_of_cell? w _ hx224_0)).trans hx224_0
            replace hx224_1 := (HB.out.cell (World.block_lt_of_cell? w _ hx224_1)).trans hx224_1
            replace hx224_2 := (HB.out.cell (World.block_lt_of_cell? w _ hx224_2)).trans hx224_2
            replace hx224_3 := (HB.out.cell (World.block_lt_of_cell? w _ hx224_3)).trans hx224_3
            replace hx224_4 := (HB.out.cell (World.block_lt_of_cell? w _ hx224_4)).trans hx224_4
            replace hx224_5 := (HB.out.cell (World.block_lt_of_cell? w _ hx224_5)).trans hx224_5
            replace hx224_6 := (HB.out.cell (World.block_lt_of_cell? w _ hx224_6)).trans hx224_6
            replace hx224_7 := (HB.out.cell (World.block_lt_of_cell? w _ hx224_7)).trans hx224_7
            replace p224 := eq_true p224
            replace q224 := eq_true q224
            have hcz8_0 : wr.cell? ⟨gb223, 0, none⟩ = some (.int .u32 a1_0) := (blk_cell BK223.out 0).trans rfl
            have hcz8_1 : wr.cell? ⟨gb223, 1, none⟩ = some (.string a1_1) := (blk_cell BK223.out 1).trans rfl
            have hfz8_0 := blk_frozen BK223.out 0
            have hfz8_1 := blk_frozen BK223.out 1
            go_wp2
            repeat (go_quiet (fail); try go_wp2)
            go_roundg k1
            case measure => have := HK1.out; omega
            case rel => exact ⟨(wrap64 (x5_1 + 1)), (by first | rfl | (simp; done) | (simp [*]; done)), H', ⟨by have := HK1.out; omega⟩, ⟨by (with_reducible repeat (first | refine blk_drewN ?_ _ | refine blk_drew ?_ | refine blk_alloc ?_ _)); exact BK223.out⟩, ⟨by repeat (first | (with_reducible first | exact HB.out | apply below_alloc | apply pw_below_drewN | apply below_drew1 | refine below_set ?_ GE223.out) | exact HB.out)⟩⟩
        · rw [if_neg c5] at H
          exact absurd H (by simp)
      · rw [if_neg c4] at H
        have c4b0 : decide (x5_1 < (l0.length : Int)) = false := decide_eq_false c4
        clear c4
        obtain rfl := Option.some.inj H
        go_wp2
        repeat (go_quiet (fail); try go_wp2)
        go_ret
        exact ⟨by first | rfl | (simp [errW_none, errW_some] <;> rfl) | (simp [*, errW_none, errW_some] <;> rfl), by repeat (first | (with_reducible first | exact HB.out | apply below_alloc | apply pw_below_drewN | apply below_drew1 | refine below_set ?_ GE223.out) | exact HB.out)⟩
def field_Def.l0 : Nat → Int → List (S101) → Int → Int → Option (Int × Int × Int × Bool)
  | 0, _, _, _, _ => none
  | k + 1, x0, x21, x22, x23 => if x23 < x22 then (if 0 ≤ x23 then (if x23 < (x21.length : Int) then (if ((rd_T101 x21 x23).f0) = x0 then (some ((rd_T101 x21 x23).f0, (rd_T101 x21 x23).f1, (rd_T101 x21 x23).f2, true)) else (field_Def.l0 k x0 x21 x22 (wrap64 (x23 + 1)))) else (none)) else (none)) else (some (0, 0, 0, false))
def field_Def.f (k : Nat) (a0 : Int) : Option (Int × Int × Int × Bool) := (some (([(⟨2, 3, 19⟩ : S101), (⟨3, 1, 6⟩ : S101), (⟨4, 1, 12⟩ : S101), (⟨7, 1, 10⟩ : S101), (⟨11, 1, 6⟩ : S101), (⟨12, 1, 6⟩ : S101), (⟨37, 2, 12⟩ : S101), (⟨38, 2, 6⟩ : S101), (⟨39, 2, 2⟩ : S101), (⟨41, 2, 8⟩ : S101), (⟨44, 4, 25⟩ : S101), (⟨48, 5, 999⟩ : S101), (⟨49, 1, 3⟩ : S101), (⟨90, 1, 42⟩ : S101), (⟨120, 5, 999⟩ : S101)] : List (S101)) : List (S101))).bind fun y226 => (field_Def.l0 k a0 y226 (y226.length : Int) 0)
theorem field_Def.mono_l : ∀ k, (∀ y0 y1 y2 y3, LeO (field_Def.l0 k y0 y1 y2 y3) (field_Def.l0 (k + 1) y0 y1 y2 y3))
  | 0 => fun _ _ _ _ r h => by simp [field_Def.l0] at h
  | k + 1 => by
    have ih0 := field_Def.mono_l k
    · intro y0 y1 y2 y3
      unfold field_Def.l0
      repeat' first
      | (with_reducible exact ih0 _ _ _ _)
      | (with_reducible exact LeO.refl _)
      | (with_reducible exact LeO.none _)
      | (with_reducible refine LeO.ite ?_ ?_)
      | (with_reducible refine LeO.bind ?_ (fun _ => ?_))
      | exact ih0 _ _ _ _
      | exact LeO.none _
      | refine LeO.ite ?_ ?_
      | refine LeO.bind ?_ (fun _ => ?_)
theorem field_Def.mono : ∀ a0 k, LeO (field_Def.f k a0) (field_Def.f (k + 1) a0) := by
  intro a0 k
  have ih0 := field_Def.mono_l k
  unfold field_Def.f
  repeat' first
      | (with_reducible exact ih0 _ _ _ _)
      | (with_reducible exact LeO.refl _)
      | (with_reducible exact LeO.none _)
      | (with_reducible refine LeO.ite ?_ ?_)
      | (with_reducible refine LeO.bind ?_ (fun _ => ?_))
      | exact ih0 _ _ _ _
      | exact LeO.none _
      | refine LeO.ite ?_ ?_
      | refine LeO.bind ?_ (fun _ => ?_)
set_option maxHeartbeats 8000000 in
set_option maxRecDepth 100000 in
theorem field_Def.calls (k : Nat) (a0 : Int) (r1 : Int) (r2 : Int) (r3 : Int) (r4 : Bool) (w : World) (h : field_Def.f k a0 = some (r1, r2, r3, r4)) :
    Calls Tryd.prog 67 #[.int .i64 a0] w fun e w' => e = .returned (.tuple #[.agg #[.int .i64 r1, .int .i64 r2, .int .i64 r3], .bool r4]) ∧ Below w.heap.size w w' := by
  have hu101 := Tryd.underlying101
  have HB := Aside0.mk (Below.refl w.heap.size w)
  have H : ((some (([(⟨2, 3, 19⟩ : S101), (⟨3, 1, 6⟩ : S101), (⟨4, 1, 12⟩ : S101), (⟨7, 1, 10⟩ : S101), (⟨11, 1, 6⟩ : S101), (⟨12, 1, 6⟩ : S101), (⟨37, 2, 12⟩ : S101), (⟨38, 2, 6⟩ : S101), (⟨39, 2, 2⟩ : S101), (⟨41, 2, 8⟩ : S101), (⟨44, 4, 25⟩ : S101), (⟨48, 5, 999⟩ : S101), (⟨49, 1, 3⟩ : S101), (⟨90, 1, 42⟩ : S101), (⟨120, 5, 999⟩ : S101)] : List (S101)) : List (S101))).bind fun y226 => (field_Def.l0 k a0 y226 (y226.length : Int) 0)) = some (r1, r2, r3, r4) := h
  clear h
  obtain ⟨y226, hy226⟩ : ∃ y_ : List (S101), y_ = (([(⟨2, 3, 19⟩ : S101), (⟨3, 1, 6⟩ : S101), (⟨4, 1, 12⟩ : S101), (⟨7, 1, 10⟩ : S101), (⟨11, 1, 6⟩ : S101), (⟨12, 1, 6⟩ : S101), (⟨37, 2, 12⟩ : S101), (⟨38, 2, 6⟩ : S101), (⟨39, 2, 2⟩ : S101), (⟨41, 2, 8⟩ : S101), (⟨44, 4, 25⟩ : S101), (⟨48, 5, 999⟩ : S101), (⟨49, 1, 3⟩ : S101), (⟨90, 1, 42⟩ : S101), (⟨120, 5, 999⟩ : S101)] : List (S101))) := ⟨_, rfl⟩
  replace H : (field_Def.l0 k a0 y226 (y226.length : Int) 0) = some (r1, r2, r3, r4) := by first | (rw [hy226]; with_reducible exact H) | (have H2_ := (Option.bind_some _ _).symm.trans H; rw [hy226]; with_reducible exact H2_) | (have H2_ := (Option.bind_some _ _).symm.trans H; with_reducible exact H2_) | with_reducible exact H | (rw [hy226]; exact H) | exact H
  have Ny226 := Aside0.mk hy226
  clear hy226
  have H' := Aside0.mk H
  clear H
  go_enter Tryd.func67, Tryd.ntmps67
  go_wp2_with (first | ((with_reducible refine gate_dst (N := 2) rfl ?_); refine box_event ?hg (N := 2) ?hd (cs := #[.int .i64 0, .int .i64 0, .int .i64 0]) (t := 101) ?hr ?_; (case hd => rfl); (case hg => rfl); (case hr => first | (go_simp; done) | (go_simp; rfl)); intro gb225 hg w2 hbox hb; have n0_ := Aside0.mk (below_step (by repeat (first | (with_reducible first | exact HB.out | apply below_alloc | apply pw_below_drewN | apply below_drew1) | exact HB.out)) hb); have n1_ := Aside0.mk (hbox); have n2_ := Aside0.mk ((by rw [hg]; exact (below_size (by repeat (first | (with_reducible first | exact HB.out | apply below_alloc | apply pw_below_drewN | apply below_drew1) | exact HB.out))) : w.heap.size ≤ gb225)); have n3_ := Aside0.mk ((by rw [hg]; exact (below_size (by repeat (first | (with_reducible first | exact HB.out | apply below_alloc | apply pw_below_drewN | apply below_drew1) | exact HB.out))) : w.heap.size ≤ gb225)); clear HB; have HB := n0_; have BK225 := n1_; have GW225 := n2_; have GE225 := n3_; clear n0_ n1_ n2_ n3_; clear hb hbox hg) | ((with_reducible refine gate_dst (N := 21) rfl ?_); refine Kd.R_lit k101 _ 101 ?hg (N := 21) ?hd (xs := ([(⟨2, 3, 19⟩ : S101), (⟨3, 1, 6⟩ : S101), (⟨4, 1, 12⟩ : S101), (⟨7, 1, 10⟩ : S101), (⟨11, 1, 6⟩ : S101), (⟨12, 1, 6⟩ : S101), (⟨37, 2, 12⟩ : S101), (⟨38, 2, 6⟩ : S101), (⟨39, 2, 2⟩ : S101), (⟨41, 2, 8⟩ : S101), (⟨44, 4, 25⟩ : S101), (⟨48, 5, 999⟩ : S101), (⟨49, 1, 3⟩ : S101), (⟨90, 1, 42⟩ : S101), (⟨120, 5, 999⟩ : S101)] : List (S101))) (inner := [.int .i64 2, .int .i64 3, .int .i64 19, .int .i64 3, .int .i64 1, .int .i64 6, .int .i64 4, .int .i64 1, .int .i64 12, .int .i64 7, .int .i64 1, .int .i64 10, .int .i64 11, .int .i64 1, .int .i64 6, .int .i64 12, .int .i64 1, .int .i64 6, .int .i64 37, .int .i64 2, .int .i64 12, .int .i64 38, .int .i64 2, .int .i64 6, .int .i64 39, .int .i64 2, .int .i64 2, .int .i64 41, .int .i64 2, .int .i64 8, .int .i64 44, .int .i64 4, .int .i64 25, .int .i64 48, .int .i64 5, .int .i64 999, .int .i64 49, .int .i64 1, .int .i64 3, .int .i64 90, .int .i64 1, .int .i64 42, .int .i64 120, .int .i64 5, .int .i64 999]) (ok := fun _ => True) (okp := fun _ => True) ?hr ?hp (fun _ hk => hk) trivial (Below.refl _ _) (Nat.le_refl _) (by simp) ?_; (case hd => rfl); (case hg => rfl); (case hr => first | (go_simp; done) | (go_simp; rfl)); (case hp => exact (Reps.c3 (show Kd.M k101 _ _ _ (⟨2, 3, 19⟩ : S101) [.int .i64 2, .int .i64 3, .int .i64 19] from (k101_mkM _ _ _ (⟨2, 3, 19⟩ : S101) )) (Reps.c3 (show Kd.M k101 _ _ _ (⟨3, 1, 6⟩ : S101) [.int .i64 3, .int .i64 1, .int .i64 6] from (k101_mkM _ _ _ (⟨3, 1, 6⟩ : S101) )) (Reps.c3 (show Kd.M k101 _ _ _ (⟨4, 1, 12⟩ : S101) [.int .i64 4, .int .i64 1, .int .i64 12] from (k101_mkM _ _ _ (⟨4, 1, 12⟩ : S101) )) (Reps.c3 (show Kd.M k101 _ _ _ (⟨7, 1, 10⟩ : S101) [.int .i64 7, .int .i64 1, .int .i64 10] from (k101_mkM _ _ _ (⟨7, 1, 10⟩ : S101) )) (Reps.c3 (show Kd.M k101 _ _ _ (⟨11, 1, 6⟩ : S101) [.int .i64 11, .int .i64 1, .int .i64 6] from (k101_mkM _ _ _ (⟨11, 1, 6⟩ : S101) )) (Reps.c3 (show Kd.M k101 _ _ _ (⟨12, 1, 6⟩ : S101) [.int .i64 12, .int .i64 1, .int .i64 6] from (k101_mkM _ _ _ (⟨12, 1, 6⟩ : S101) )) (Reps.c3 (show Kd.M k101 _ _ _ (⟨37, 2, 12⟩ : S101) [.int .i64 37, .int .i64 2, .int .i64 12] from (k101_mkM _ _ _ (⟨37, 2, 12⟩ : S101) )) (Reps.c3 (show Kd.M k101 _ _ _ (⟨38, 2, 6⟩ : S101) [.int .i64 38, .int .i64 2, .int .i64 6] from (k101_mkM _ _ _ (⟨38, 2, 6⟩ : S101) )) (Reps.c3 (show Kd.M k101 _ _ _ (⟨39, 2, 2⟩ : S101) [.int .i64 39, .int .i64 2, .int .i64 2] from (k101_mkM _ _ _ (⟨39, 2, 2⟩ : S101) )) (Reps.c3 (show Kd.M k101 _ _ _ (⟨41, 2, 8⟩ : S101) [.int .i64 41, .int .i64 2, .int .i64 8] from (k101_mkM _ _ _ (⟨41, 2, 8⟩ : S101) )) (Reps.c3 (show Kd.M k101 _ _ _ (⟨44, 4, 25⟩ : S101) [.int .i64 44, .int .i64 4, .int .i64 25] from (k101_mkM _ _ _ (⟨44, 4, 25⟩ : S101) )) (Reps.c3 (show Kd.M k101 _ _ _ (⟨48, 5, 999⟩ : S101) [.int .i64 48, .int .i64 5, .int .i64 999] from (k101_mkM _ _ _ (⟨48, 5, 999⟩ : S101) )) (Reps.c3 (show Kd.M k101 _ _ _ (⟨49, 1, 3⟩ : S101) [.int .i64 49, .int .i64 1, .int .i64 3] from (k101_mkM _ _ _ (⟨49, 1, 3⟩ : S101) )) (Reps.c3 (show Kd.M k101 _ _ _ (⟨90, 1, 42⟩ : S101) [.int .i64 90, .int .i64 1, .int .i64 42] from (k101_mkM _ _ _ (⟨90, 1, 42⟩ : S101) )) (Reps.c3 (show Kd.M k101 _ _ _ (⟨120, 5, 999⟩ : S101) [.int .i64 120, .int .i64 5, .int .i64 999] from (k101_mkM _ _ _ (⟨120, 5, 999⟩ : S101) )) (Reps.none _ _))))))))))))))))); intro v227 w3 ho4 hb hg_ hnew_; clear hg_ hnew_; (first | rw [← Ny226.out] at ho4 | (simp only [Int.reduceToNat] at ho4; rw [← Ny226.out] at ho4)); have n0_ := Aside0.mk (Kd.R_lower (Kd.R_newB ho4 (g := gb225) (o := .cells #[.int .i64 0, .int .i64 0, .int .i64 0] 101 (0, 0)) (by (with_reducible repeat (first | refine blk_drewN ?_ _ | refine blk_drew ?_ | refine blk_alloc ?_ _)); exact BK225.out)) (below_size (by repeat (first | (with_reducible first | exact HB.out | apply below_alloc | apply pw_below_drewN | apply below_drew1 | refine below_set ?_ GE225.out) | exact HB.out)))); have n1_ := Aside0.mk (blk_below (g := gb225) (o := .cells #[.int .i64 0, .int .i64 0, .int .i64 0] 101 (0, 0)) (by (with_reducible repeat (first | refine blk_drewN ?_ _ | refine blk_drew ?_ | refine blk_alloc ?_ _)); exact BK225.out) hb); have n2_ := Aside0.mk (below_step (by repeat (first | (with_reducible first | exact HB.out | apply below_alloc | apply pw_below_drewN | apply below_drew1 | refine below_set ?_ GE225.out) | exact HB.out)) hb); clear BK225; clear HB; have HO228 := n0_; have BK225 := n1_; have HB := n2_; clear n0_ n1_ n2_; clear hb ho4; obtain ⟨Ao5, co5, eo5⟩ := Kd.R_slice HO228.out; subst eo5))
  go_loopg [23] k (fun kq v23 w' => ∃ (x23_1 : Int) (x226000_1 : Int) (x226001_1 : Int) (x226002_1 : Int), v23 = .int .i64 x23_1 ∧ Aside0 (field_Def.l0 kq a0 y226 (y226.length : Int) x23_1 = some (r1, r2, r3, r4)) ∧ Aside0 (kq ≤ k) ∧ Aside0 (Kd.R k101 101 w' w.heap.size (fun k_ => k_ ≠ gb225) (.slice Ao5 y226.length co5) y226) ∧ Aside0 (w'.heap[gb225]? = some (.cells #[.int .i64 x226000_1, .int .i64 x226001_1, .int .i64 x226002_1] 101 (0, 0))) ∧ Aside0 (Below w.heap.size w w'))
  case atStart => exact ⟨(0), (0), (0), (0), (by first | rfl | (simp; done) | (simp [*]; done)), H', ⟨Nat.le_refl _⟩, ⟨by (with_reducible repeat (first | apply Kd.R_alloc | apply Kd.R_drewN | apply Kd.R_drew)); exact Kd.R_mono HO228.out (fun _ hk => hk.2)⟩, ⟨by (with_reducible repeat (first | refine blk_drewN ?_ _ | refine blk_drew ?_ | refine blk_alloc ?_ _)); exact BK225.out⟩, ⟨by repeat (first | (with_reducible first | exact HB.out | apply below_alloc | apply pw_below_drewN | apply below_drew1 | refine below_set ?_ GE225.out) | exact HB.out)⟩⟩
  case round =>
    clear H'
    try clear p2
    try clear c3
    obtain ⟨x23_1, x226000_1, x226001_1, x226002_1, rfl, HA, HK1, HO_21, BK225, HB⟩ := hrel
    cases gk with
    | zero => exact absurd HA.out (by simp [field_Def.l0])
    | succ k1 =>
      have H := HA.out
      clear HA
      simp only [field_Def.l0] at H
      by_cases c6 : x23_1 < (y226.length : Int)
      · rw [if_pos c6] at H
        have c6b0 : decide (x23_1 < (y226.length : Int)) = true := decide_eq_true c6
        clear c6
        by_cases c7 : 0 ≤ x23_1
        · rw [if_pos c7] at H
          have c7b0 : decide (0 ≤ x23_1) = true := decide_eq_true c7
          clear c7
          by_cases c8 : x23_1 < (y226.length : Int)
          · rw [if_pos c8] at H
            have c8b0 : decide (x23_1 < (y226.length : Int)) = true := decide_eq_true c8
            clear c8
            by_cases c9 : ((rd_T101 y226 x23_1).f0) = a0
            · rw [if_pos c9] at H
              have c9b0 : (((rd_T101 y226 x23_1).f0) == a0) = true := beq_iff_eq.mpr c9
              have c9b1 : (((rd_T101 y226 x23_1).f0) != a0) = false := bne_eq_false_iff_eq.mpr c9
              clear c9
              simp only [Option.some.injEq, Prod.mk.injEq] at H
              obtain ⟨rfl, rfl, rfl, rfl⟩ := H
              have p229 : 0 ≤ (x23_1 : Int) := of_decide_eq_true (by first | (with_reducible assumption) | assumption)
              have q229 : x23_1 < (y226.length : Int) := of_decide_eq_true (by first | (with_reducible assumption) | assumption)
              obtain ⟨ad229, e229, hx229_0, hx229_1, hx229_2⟩ := at_T101 (Kd.R_reads' HO_21.out).2.2 x23_1 p229 q229
              cases e229
              replace p229 := eq_true p229
              replace q229 := eq_true q229
              go_wp2_with (first | ((with_reducible refine gate_dst (N := 5) rfl ?_); refine box_event ?hg (N := 5) ?hd (cs := #[.int .i64 0, .int .i64 0, .int .i64 0]) (t := 101) ?hr ?_; (case hd => rfl); (case hg => rfl); (case hr => first | (go_simp; done) | (go_simp; rfl)); intro gb230 hg w10 hbox hb; have n0_ := Aside0.mk (Kd.R_below (Kd.R_elderB (by (with_reducible repeat (first | apply Kd.R_alloc | apply Kd.R_drewN | apply Kd.R_drew)); exact HO_21.out) gb230 (Nat.le_of_eq hg.symm)) hb); have n1_ := Aside0.mk (blk_below (g := gb225) (o := .cells #[.int .i64 x226000_1, .int .i64 x226001_1, .int .i64 x226002_1] 101 (0, 0)) (by (with_reducible repeat (first | refine blk_drewN ?_ _ | refine blk_drew ?_ | refine blk_alloc ?_ _)); exact BK225.out) hb); have n2_ := Aside0.mk (below_step (by repeat (first | (with_reducible first | exact HB.out | apply below_alloc | apply pw_below_drewN | apply below_drew1 | refine below_set ?_ GE225.out) | exact HB.out)) hb); have n3_ := Aside0.mk (hbox); have n4_ := Aside0.mk ((by rw [hg]; exact (below_size (by repeat (first | (with_reducible first | exact HB.out | apply below_alloc | apply pw_below_drewN | apply below_drew1 | refine below_set ?_ GE225.out) | exact HB.out))) : w.heap.size ≤ gb230)); have n5_ := Aside0.mk ((by rw [hg]; exact (below_size (by repeat (first | (with_reducible first | exact HB.out | apply below_alloc | apply pw_below_drewN | apply below_drew1 | refine below_set ?_ GE225.out) | exact HB.out))) : w.heap.size ≤ gb230)); have n6_ := Aside0.mk ((by rw [hg]; exact Nat.ne_of_lt (blk_lt (g := gb225) (o := .cells #[.int .i64 x226000_1, .int .i64 x226001_1, .int .i64 x226002_1] 101 (0, 0)) (by (with_reducible repeat (first | refine blk_drewN ?_ _ | refine blk_drew ?_ | refine blk_alloc ?_ _)); exact BK225.out)) : gb225 ≠ gb230)); have n7_ := Aside0.mk ((by rw [hg]; exact Nat.ne_of_gt (blk_lt (g := gb225) (o := .cells #[.int .i64 x226000_1, .int .i64 x226001_1, .int .i64 x226002_1] 101 (0, 0)) (by (with_reducible repeat (first | refine blk_drewN ?_ _ | refine blk_drew ?_ | refine blk_alloc ?_ _)); exact BK225.out)) : gb230 ≠ gb225)); clear HO_21; clear BK225; clear HB; have HO_21 := n0_; have BK225 := n1_; have HB := n2_; have BK230 := n3_; have GW230 := n4_; have GE230 := n5_; have NB225_230 := n6_; have NB230_225 := n7_; clear n0_ n1_ n2_ n3_ n4_ n5_ n6_ n7_; clear hb hbox hg; have hnb11 := NB230_225.out; have hnc11 := NB225_230.out; have hcz12_0 : w10.cell? ⟨gb230, 0, none⟩ = some (.int .i64 0) := (blk_cell BK230.out 0).trans rfl; have hcz12_1 : w10.cell? ⟨gb230, 1, none⟩ = some (.int .i64 0) := (blk_cell BK230.out 1).trans rfl; have hcz12_2 : w10.cell? ⟨gb230, 2, none⟩ = some (.int .i64 0) := (blk_cell BK230.out 2).trans rfl; have hfz12_0 := blk_frozen BK230.out 0; have hfz12_1 := blk_frozen BK230.out 1; have hfz12_2 := blk_frozen BK230.out 2; have hcz13_0 : w10.cell? ⟨gb225, 0, none⟩ = some (.int .i64 x226000_1) := (blk_cell BK225.out 0).trans rfl; have hcz13_1 : w10.cell? ⟨gb225, 1, none⟩ = some (.int .i64 x226001_1) := (blk_cell BK225.out 1).trans rfl; have hcz13_2 : w10.cell? ⟨gb225, 2, none⟩ = some (.int .i64 x226002_1) := (blk_cell BK225.out 2).trans rfl; have hfz13_0 := blk_frozen BK225.out 0; have hfz13_1 := blk_frozen BK225.out 1; have hfz13_2 := blk_frozen BK225.out 2))
              refine bodyPost_ret (results_ct rfl _ _ gb225 101 #[.int .i64 ((rd_T101 y226 x23_1).f0), .int .i64 ((rd_T101 y226 x23_1).f1), .int .i64 ((rd_T101 y226 x23_1).f2)] (0, 0) _ rfl (by (with_reducible repeat (first | refine blk_drewN ?_ _ | refine blk_drew ?_ | refine blk_alloc ?_ _)); refine blk_put (cs := #[.int .i64 ((rd_T101 y226 x23_1).f0), .int .i64 ((rd_T101 y226 x23_1).f1), .int .i64 x226002_1]) ?_ 2 _ rfl; (with_reducible repeat (first | refine blk_drewN ?_ _ | refine blk_drew ?_ | refine blk_alloc ?_ _)); refine blk_put (cs := #[.int .i64 ((rd_T101 y226 x23_1).f0), .int .i64 x226001_1, .int .i64 x226002_1]) ?_ 1 _ rfl; (with_reducible repeat (first | refine blk_drewN ?_ _ | refine blk_drew ?_ | refine blk_alloc ?_ _)); refine blk_put (cs := #[.int .i64 x226000_1, .int .i64 x226001_1, .int .i64 x226002_1]) ?_ 0 _ rfl; (with_reducible repeat (first | refine blk_drewN ?_ _ | refine blk_drew ?_ | refine blk_alloc ?_ _)); refine blk_far ?_ NB225_230.out _; (with_reducible repeat (first | refine blk_drewN ?_ _ | refine blk_drew ?_ | refine blk_alloc ?_ _)); refine blk_far ?_ NB225_230.out _; (with_reducible repeat (first | refine blk_drewN ?_ _ | refine blk_drew ?_ | refine blk_alloc ?_ _)); refine blk_far ?_ NB225_230.out _; (with_reducible repeat (first | refine blk_drewN ?_ _ | refine blk_drew ?_ | refine blk_alloc ?_ _)); exact BK225.out) Tryd.underlying101 rfl (by kernel_rfl)) rfl ?_
              exact ⟨by first | rfl | (simp [errW_none, errW_some] <;> rfl) | (simp [*, errW_none, errW_some] <;> rfl), by repeat (first | (with_reducible first | exact HB.out | apply below_alloc | apply pw_below_drewN | apply below_drew1 | refine below_set ?_ GE225.out | refine below_set ?_ GE230.out) | exact HB.out)⟩
            · rw [if_neg c9] at H
              have c9b0 : (((rd_T101 y226 x23_1).f0) == a0) = false := beq_eq_false_iff_ne.mpr c9
              have c9b1 : (((rd_T101 y226 x23_1).f0) != a0) = true := bne_iff_ne.mpr c9
              have H' := Aside0.mk H
              clear H
              have p229 : 0 ≤ (x23_1 : Int) := of_decide_eq_true (by first | (with_reducible assumption) | assumption)
              have q229 : x23_1 < (y226.length : Int) := of_decide_eq_true (by first | (with_reducible assumption) | assumption)
              obtain ⟨ad229, e229, hx229_0, hx229_1, hx229_2⟩ := at_T101 (Kd.R_reads' HO_21.out).2.2 x23_1 p229 q229
              cases e229
              replace p229 := eq_true p229
              replace q229 := eq_true q229
              go_wp2_with (first | ((with_reducible refine gate_dst (N := 5) rfl ?_); refine box_event ?hg (N := 5) ?hd (cs := #[.int .i64 0, .int .i64 0, .int .i64 0]) (t := 101) ?hr ?_; (case hd => rfl); (case hg => rfl); (case hr => first | (go_simp; done) | (go_simp; rfl)); intro gb230 hg w14 hbox hb; have n0_ := Aside0.mk (Kd.R_below (Kd.R_elderB (by (with_reducible repeat (first | apply Kd.R_alloc | apply Kd.R_drewN | apply Kd.R_drew)); exact HO_21.out) gb230 (Nat.le_of_eq hg.symm)) hb); have n1_ := Aside0.mk (blk_below (g := gb225) (o := .cells #[.int .i64 x226000_1, .int .i64 x226001_1, .int .i64 x226002_1] 101 (0, 0)) (by (with_reducible repeat (first | refine blk_drewN ?_ _ | refine blk_drew ?_ | refine blk_alloc ?_ _)); exact BK225.out) hb); have n2_ := Aside0.mk (below_step (by repeat (first | (with_reducible first | exact HB.out | apply below_alloc | apply pw_below_drewN | apply below_drew1 | refine below_set ?_ GE225.out) | exact HB.out)) hb); have n3_ := Aside0.mk (hbox); have n4_ := Aside0.mk ((by rw [hg]; exact (below_size (by repeat (first | (with_reducible first | exact HB.out | apply below_alloc | apply pw_below_drewN | apply below_drew1 | refine below_set ?_ GE225.out) | exact HB.out))) : w.heap.size ≤ gb230)); have n5_ := Aside0.mk ((by rw [hg]; exact (below_size (by repeat (first | (with_reducible first | exact HB.out | apply below_alloc | apply pw_below_drewN | apply below_drew1 | refine below_set ?_ GE225.out) | exact HB.out))) : w.heap.size ≤ gb230)); have n6_ := Aside0.mk ((by rw [hg]; exact Nat.ne_of_lt (blk_lt (g := gb225) (o := .cells #[.int .i64 x226000_1, .int .i64 x226001_1, .int .i64 x226002_1] 101 (0, 0)) (by (with_reducible repeat (first | refine blk_drewN ?_ _ | refine blk_drew ?_ | refine blk_alloc ?_ _)); exact BK225.out)) : gb225 ≠ gb230)); have n7_ := Aside0.mk ((by rw [hg]; exact Nat.ne_of_gt (blk_lt (g := gb225) (o := .cells #[.int .i64 x226000_1, .int .i64 x226001_1, .int .i64 x226002_1] 101 (0, 0)) (by (with_reducible repeat (first | refine blk_drewN ?_ _ | refine blk_drew ?_ | refine blk_alloc ?_ _)); exact BK225.out)) : gb230 ≠ gb225)); clear HO_21; clear BK225; clear HB; have HO_21 := n0_; have BK225 := n1_; have HB := n2_; have BK230 := n3_; have GW230 := n4_; have GE230 := n5_; have NB225_230 := n6_; have NB230_225 := n7_; clear n0_ n1_ n2_ n3_ n4_ n5_ n6_ n7_; clear hb hbox hg; have hnb15 := NB230_225.out; have hnc15 := NB225_230.out; have hcz16_0 : w14.cell? ⟨gb230, 0, none⟩ = some (.int .i64 0) := (blk_cell BK230.out 0).trans rfl; have hcz16_1 : w14.cell? ⟨gb230, 1, none⟩ = some (.int .i64 0) := (blk_cell BK230.out 1).trans rfl; have hcz16_2 : w14.cell? ⟨gb230, 2, none⟩ = some (.int .i64 0) := (blk_cell BK230.out 2).trans rfl; have hfz16_0 := blk_frozen BK230.out 0; have hfz16_1 := blk_frozen BK230.out 1; have hfz16_2 := blk_frozen BK230.out 2))
              go_roundg k1
              case measure => have := HK1.out; omega
              case rel => exact ⟨(wrap64 (x23_1 + 1)), (x226000_1), (x226001_1), (x226002_1), (by first | rfl | (simp; done) | (simp [*]; done)), H', ⟨by have := HK1.out; omega⟩, ⟨by (with_reducible repeat (first | apply Kd.R_alloc | apply Kd.R_drewN | apply Kd.R_drew)); exact Kd.R_mono (Kd.R_far (p := ⟨gb230, 2, none⟩) (Kd.R_far (p := ⟨gb230, 1, none⟩) (Kd.R_far (p := ⟨gb230, 0, none⟩) (Kd.R_mono HO_21.out (fun k_ hk => (⟨hk, hk.2⟩ : _ ∧ k_ ≠ gb230))) (fun _ hk => hk.2) (.int .i64 ((rd_T101 y226 x23_1).f0))) (fun _ hk => hk.2) (.int .i64 ((rd_T101 y226 x23_1).f1))) (fun _ hk => hk.2) (.int .i64 ((rd_T101 y226 x23_1).f2))) (fun _ hk => hk.1.1)⟩, ⟨by (with_reducible repeat (first | refine blk_drewN ?_ _ | refine blk_drew ?_ | refine blk_alloc ?_ _)); refine blk_far ?_ NB225_230.out _; (with_reducible repeat (first | refine blk_drewN ?_ _ | refine blk_drew ?_ | refine blk_alloc ?_ _)); refine blk_far ?_ NB225_230.out _; (with_reducible repeat (first | refine blk_drewN ?_ _ | refine blk_drew ?_ | refine blk_alloc ?_ _)); refine blk_far ?_ NB225_230.out _; (with_reducible repeat (first | refine blk_drewN ?_ _ | refine blk_drew ?_ | refine blk_alloc ?_ _)); exact BK225.out⟩, ⟨by repeat (first | (with_reducible first | exact HB.out | apply below_alloc | apply pw_below_drewN | apply below_drew1 | refine below_set ?_ GE225.out | refine below_set ?_ GE230.out) | exact HB.out)⟩⟩
          · rw [if_neg c8] at H
            exact absurd H (by simp)
        · rw [if_neg c7] at H
          exact absurd H (by simp)
      · rw [if_neg c6] at H
        have c6b0 : decide (x23_1 < (y226.length : Int)) = false := decide_eq_false c6
        clear c6
        simp only [Option.some.injEq, Prod.mk.injEq] at H
        obtain ⟨rfl, rfl, rfl, rfl⟩ := H
        have hcz17_0 : wr.cell? ⟨gb225, 0, none⟩ = some (.int .i64 x226000_1) := (blk_cell BK225.out 0).trans rfl
        have hcz17_1 : wr.cell? ⟨gb225, 1, none⟩ = some (.int .i64 x226001_1) := (blk_cell BK225.out 1).trans rfl
        have hcz17_2 : wr.cell? ⟨gb225, 2, none⟩ = some (.int .i64 x226002_1) := (blk_cell BK225.out 2).trans rfl
        have hfz17_0 := blk_frozen BK225.out 0
        have hfz17_1 := blk_frozen BK225.out 1
        have hfz17_2 := blk_frozen BK225.out 2
        go_wp2
        refine bodyPost_ret (results_ct rfl _ _ gb225 101 #[.int .i64 0, .int .i64 0, .int .i64 0] (0, 0) _ rfl (by (with_reducible repeat (first | refine blk_drewN ?_ _ | refine blk_drew ?_ | refine blk_alloc ?_ _)); refine blk_put (cs := #[.int .i64 0, .int .i64 0, .int .i64 x226002_1]) ?_ 2 _ rfl; (with_reducible repeat (first | refine blk_drewN ?_ _ | refine blk_drew ?_ | refine blk_alloc ?_ _)); refine blk_put (cs := #[.int .i64 0, .int .i64 x226001_1, .int .i64 x226002_1]) ?_ 1 _ rfl; (with_reducible repeat (first | refine blk_drewN ?_ _ | refine blk_drew ?_ | refine blk_alloc ?_ _)); refine blk_put (cs := #[.int .i64 x226000_1, .int .i64 x226001_1, .int .i64 x226002_1]) ?_ 0 _ rfl; (with_reducible repeat (first | refine blk_drewN ?_ _ | refine blk_drew ?_ | refine blk_alloc ?_ _)); exact BK225.out) Tryd.underlying101 rfl (by kernel_rfl)) rfl ?_
        exact ⟨by first | rfl | (simp [errW_none, errW_some] <;> rfl) | (simp [*, errW_none, errW_some] <;> rfl), by repeat (first | (with_reducible first | exact HB.out | apply below_alloc | apply pw_below_drewN | apply below_drew1 | refine below_set ?_ GE225.out) | exact HB.out)⟩
end Go.Proofs.YtkgkemihhfipaaaDoor.HK

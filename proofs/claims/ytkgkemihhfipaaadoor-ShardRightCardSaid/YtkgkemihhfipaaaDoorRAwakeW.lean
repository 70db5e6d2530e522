/- Packed by pack.py (this session's own program): texts of the kit's printer and of my own, what is not used struck. -/
import Derived.Test.YtkgkemihhfipaaaDoorROpsX
set_option linter.unusedVariables false
set_option linter.unusedSimpArgs false
set_option linter.unusedSectionVars false
namespace Go.Proofs.YtkgkemihhfipaaaDoor.HK
open Go.RowKit Go.Proofs.YtkgkemihhfipaaaDoorW.PrintWords Go.Proofs.YtkgkemihhfipaaaDoorW.PrintLast Go.Proofs.YtkgkemihhfipaaaDoorW.PrintMore
structure BoxF (w : World) (g : Nat) (e : EE) : Prop where
  c : BoxE w g e
  f : ∀ j, w.frozen? ⟨g, j, none⟩ = false
section
variable {w w' : World} {g : Nat} {e : EE}
theorem BoxF.lt (h : BoxF w g e) : g < w.heap.size := World.block_lt_of_cell? w ⟨g, 0, none⟩ h.c.1
theorem BoxF.new (w : World) (e : EE) : BoxF (w.alloc (bxE e)) w.heap.size e := ⟨BoxE.new w e, fun j => by simp⟩
theorem BoxF.below (h : BoxF w g e) (hb : Below w.heap.size w w') : BoxF w' g e := ⟨h.c.below hb, fun j => (hb.frozen (p := ⟨g, j, none⟩) h.lt).trans (h.f j)⟩
theorem cell_far {a : Addr} {v u : Value} {o : Nat} (h : w.cell? a = some v) (hn : a.block ≠ g) : (w.setCell ⟨g, o, none⟩ u).cell? a = some v := (World.cell?_setCell_other w _ _ u (by intro he; rw [← he] at hn; exact hn rfl)).trans h
theorem cell_else {v u : Value} {o o' : Nat} (h : w.cell? ⟨g, o, none⟩ = some v) (hn : o ≠ o') : (w.setCell ⟨g, o', none⟩ u).cell? ⟨g, o, none⟩ = some v := (World.cell?_setCell_other w _ _ u (by intro he; injection he with _ he; exact hn he.symm)).trans h
theorem BoxF.far (h : BoxF w g e) {g' : Nat} (hn : g ≠ g') (o : Nat) (u : Value) : BoxF (w.setCell ⟨g', o, none⟩ u) g e :=
  ⟨⟨cell_far h.c.1 hn, cell_far h.c.2.1 hn, cell_far h.c.2.2.1 hn, cell_far h.c.2.2.2.1 hn, cell_far h.c.2.2.2.2.1 hn, cell_far h.c.2.2.2.2.2.1 hn, cell_far h.c.2.2.2.2.2.2.1 hn, cell_far h.c.2.2.2.2.2.2.2 hn⟩, fun j => (World.frozen?_setCells g' [u] o w _).trans (h.f j)⟩
theorem BoxF.state (h : BoxF w g e) (s : Int) : BoxF (w.setCell ⟨g, 2, none⟩ (.int .i64 s)) g { e with f1 := s } :=
  ⟨⟨cell_else h.c.1 (by omega), cell_else h.c.2.1 (by omega), World.cell?_setCell_same w _ _ h.c.2.2.1, cell_else h.c.2.2.2.1 (by omega), cell_else h.c.2.2.2.2.1 (by omega), cell_else h.c.2.2.2.2.2.1 (by omega), cell_else h.c.2.2.2.2.2.2.1 (by omega), cell_else h.c.2.2.2.2.2.2.2 (by omega)⟩, fun j => (World.frozen?_setCells g [_] 2 w _).trans (h.f j)⟩
theorem BoxF.code (h : BoxF w g e) (s : ByteArray) : BoxF (w.setCell ⟨g, 5, none⟩ (.string s)) g { e with f4 := s } :=
  ⟨⟨cell_else h.c.1 (by omega), cell_else h.c.2.1 (by omega), cell_else h.c.2.2.1 (by omega), cell_else h.c.2.2.2.1 (by omega), cell_else h.c.2.2.2.2.1 (by omega), World.cell?_setCell_same w _ _ h.c.2.2.2.2.2.1, cell_else h.c.2.2.2.2.2.2.1 (by omega), cell_else h.c.2.2.2.2.2.2.2 (by omega)⟩, fun j => (World.frozen?_setCells g [_] 5 w _).trans (h.f j)⟩
theorem C_far {A : Option Addr} {n : Nat} {l : List EE} (h : Kd.C k28 w A n l) (hn : ∀ ad, A = some ad → ad.block ≠ g) (o : Nat) (u : Value) : Kd.C k28 (w.setCell ⟨g, o, none⟩ u) A n l := by
  refine ⟨h.1, h.2.1, fun h0 => ?_⟩
  obtain ⟨ad, rfl, hc⟩ := h.2.2 h0
  refine ⟨ad, rfl, fun j p hj => ?_⟩
  obtain ⟨c, hl, hk, hcell⟩ := hc j p hj
  refine ⟨c, hl, ?_, fun i u' hu => cell_far (hcell i u' hu) (by rw [block_of_add]; exact hn ad rfl)⟩
  have hce : c = cE p := k28_open hk
  rw [hce]
  exact k28_mk _ p
theorem below_far {W : World} (h : Below W.heap.size W w) (hg : W.heap.size ≤ g) (o : Nat) (u : Value) : Below W.heap.size W (w.setCell ⟨g, o, none⟩ u) := h.setCell (p := ⟨g, o, none⟩) hg u
theorem Far.ne {A A' : Option Addr} (h : Far w A A') (hA : ∀ ad, A = some ad → ad.block ≠ g) (hg : g < w.heap.size) : ∀ ad, A' = some ad → ad.block ≠ g := by
  intro ad he
  rcases h with h | h
  · exact hA ad (by rw [← h]; exact he)
  · have := h ad he; omega
end
abbrev zE : EE := ⟨⟨0, ⟨#[]⟩⟩, 0, ⟨#[]⟩, 0, ⟨#[]⟩, 0, 0⟩
theorem sh_find (A : Option Addr) (c : Nat) (l : List EE) (q : EK) (r : Option EE) (hf : fd l q = r) (w : World) (hr : Kd.C k28 w A l.length l) (hc : l.length ≤ c) (hn : l.length ≤ 1000) : Calls Tryd.prog 12 #[.slice A l.length c, vK q] w fun e w' => e = .returned (.tuple #[vE (r.getD zE), .bool r.isSome]) ∧ Below w.heap.size w w' := by
  subst hf
  have h := find_ev l q hn (k := 1001) (Nat.le_refl _)
  cases hfd : fd l q with
  | none => rw [hfd] at h; exact shard_Find.calls 1001 A c l q.f0 q.f1 _ _ _ _ _ _ _ _ _ w hr hc h
  | some x => rw [hfd] at h; exact shard_Find.calls 1001 A c l q.f0 q.f1 _ _ _ _ _ _ _ _ _ w hr hc h
theorem Ok.mk_ (e : EE) (h : decide (0 ≤ e.f0.f0) && (decide (e.f0.f0 < 4294967296) && (decide (0 ≤ e.f3) && (decide (e.f3 < 18446744073709551616) && (decide (e.f0.f1.size ≤ 400) && (decide (e.f2.size ≤ 400) && decide (e.f4.size ≤ 400)))))) = true) : Ok e := by
  simp only [Bool.and_eq_true, decide_eq_true_eq] at h
  exact ⟨h.1, h.2.1, h.2.2.1, h.2.2.2.1, h.2.2.2.2.1, h.2.2.2.2.2.1, h.2.2.2.2.2.2⟩
abbrev rrnA : ByteArray := ⟨#[82, 82, 78, 48, 48, 48, 48, 48, 48, 48, 48, 49]⟩
abbrev aE : EE := ⟨⟨2, rrnA⟩, 1, ⟨#[49, 56]⟩, 5, ⟨#[]⟩, 0, 0⟩
abbrev aF : EE := ⟨⟨1, rrnA⟩, 1, ⟨#[49, 56]⟩, 5, ⟨#[]⟩, 0, 0⟩
abbrev aG : EE := ⟨⟨2, rrnA⟩, 2, ⟨#[49, 56]⟩, 5, ⟨#[48, 48]⟩, 0, 0⟩
theorem aw_ins : insB [aE] aF = ([aF, aE], 0) := by kernel_rfl
theorem aw_swp : swpB [aF, aE] 1 aG = ([aF, aG], 0) := by kernel_rfl
theorem aw_swp2 : swpB [aF, aG] 1 aG = ([aF, aG], 8) := by kernel_rfl
theorem aw_rem : remB [aF, aG] aF.f0 = ([aG], 0) := by kernel_rfl
theorem aw_fnd : fd [aG] aG.f0 = some aG := by kernel_rfl
theorem aw_right : shardB [aF, aE] = true := by kernel_rfl
theorem aw_entry : entryB aG = true := by kernel_rfl
theorem okE : Ok aE := Ok.mk_ _ (by kernel_rfl)
theorem okF : Ok aF := Ok.mk_ _ (by kernel_rfl)
theorem okG : Ok aG := Ok.mk_ _ (by kernel_rfl)
theorem ok1 {a : EE} (h : Ok a) : ∀ x ∈ [a], Ok x := by intro x hx; simp at hx; subst hx; exact h
theorem ok2 {a b : EE} (h : Ok a) (h' : Ok b) : ∀ x ∈ [a, b], Ok x := by intro x hx; simp at hx; rcases hx with rfl | rfl; exact h; exact h'
variable [digit_Fine.Has] [field_Right.Has] [deal_typeOf.Has] [paydeskref07_Order.Has]
set_option maxHeartbeats 8000000 in
set_option maxRecDepth 100000 in
theorem awake10 (w : World) (hty : TypesAt w) : Calls Tryd.prog 8 #[] w fun e w' => e = .returned (.bool true) ∧ Below w.heap.size w w' := by
  obtain ⟨W2, hW2⟩ : ∃ W2, W2 = (w.alloc (bxE aE)).alloc (bxE aF) := ⟨_, rfl⟩
  have hz2 : W2.heap.size = w.heap.size + 1 + 1 := by rw [hW2]; simp
  have BE2 : BoxF W2 w.heap.size aE := by rw [hW2]; exact (BoxF.new w aE).below (below_alloc _ _)
  have BF2 : BoxF W2 (w.heap.size + 1) aF := by rw [hW2]; have h := BoxF.new (w.alloc (bxE aE)) aF; simp only [World.size_alloc] at h; exact h
  have HB2 : Below w.heap.size w W2 := by rw [hW2]; exact below_next (below_alloc _ _) (below_alloc _ _)
  have HT := Sealed.mk hty
  have HW := Sealed.mk hW2
  clear hW2 hty
  have hx3 := C_of_rd (w := W2.alloc (bxE aE)) (l := [aE]) ((rowE_new W2 aE).rd (c := 1)) (by simp)
  have HB3 := below_next HB2 (below_alloc W2 (bxE aE))
  have BE3 := Sealed.mk (BE2.below (below_alloc W2 (bxE aE)))
  have BF3 := Sealed.mk (BF2.below (below_alloc W2 (bxE aE)))
  rw [hz2] at hx3
  have HX3 := Sealed.mk hx3
  have HBS3 := Sealed.mk HB3
  have HZ2 := Sealed.mk hz2
  clear hx3 HB3 HB2 BE2 BF2 hz2
  go_enter Tryd.func8, Tryd.ntmps8
  go_wp2_with fail
  rw [← HW.out]
  refine (sh_insert (some ⟨w.heap.size + 1 + 1, 0, none⟩) 1 [aE] aF _ HX3.out (Nat.le_refl _) (ok1 okE) okF (by simp) (HT.out.of HBS3.out)).mono ?_
  rw [aw_ins]
  rintro _ w4 ⟨A4, c4, rfl, hc4, hC4, hb4, hf4⟩
  have BE4 := Sealed.mk (BE3.out.below hb4)
  have BF4 := Sealed.mk (BF3.out.below hb4)
  have HB4 := Sealed.mk (below_next HBS3.out hb4)
  have hz3 := HZ2.out
  have hA4 := Sealed.mk (hf4.ne (g := w.heap.size) (by intro ad he; injection he with he; subst he; show w.heap.size + 1 + 1 ≠ w.heap.size; omega) (by simp; omega))
  have HC4 := Sealed.mk hC4
  clear hb4 hf4 hC4 hz3 BE3 BF3 HBS3 HX3 HZ2 HW
  obtain ⟨x0, x1, x2, x3, x4, x5, x6, x7⟩ := BE4.out.c
  have xf := BE4.out.f
  go_wp2_with fail
  obtain ⟨W5, hW5⟩ : ∃ W5, W5 = (w4.setCell ⟨w.heap.size, 2, none⟩ (.int .i64 2)).setCell ⟨w.heap.size, 5, none⟩ (.string ⟨#[48, 48]⟩) := ⟨_, rfl⟩
  rw [← hW5]
  have BE5 : Sealed (BoxF W5 w.heap.size aG) := ⟨by rw [hW5]; exact (BE4.out.state 2).code ⟨#[48, 48]⟩⟩
  have BF5 : Sealed (BoxF W5 (w.heap.size + 1) aF) := ⟨by rw [hW5]; exact (BF4.out.far (by omega) _ _).far (by omega) _ _⟩
  have HC5 : Sealed (Kd.C k28 W5 A4 [aF, aE].length [aF, aE]) := ⟨by rw [hW5]; exact C_far (C_far HC4.out hA4.out _ _) hA4.out _ _⟩
  have HB5 : Sealed (Below w.heap.size w W5) := ⟨by rw [hW5]; exact below_far (below_far HB4.out (Nat.le_refl _) _ _) (Nat.le_refl _) _ _⟩
  clear hW5 BE4 BF4 HC4 HB4 hA4 x0 x1 x2 x3 x4 x5 x6 x7 xf
  refine (sh_swap A4 c4 [aF, aE] 1 aG W5 HC5.out hc4 (ok2 okF okE) okG (by simp) (HT.out.of HB5.out)).mono ?_
  rw [aw_swp]
  rintro _ w6 ⟨A6, c6, rfl, hc6, hC6, hb6, _⟩
  have BE6 := Sealed.mk (BE5.out.below hb6)
  have BF6 := Sealed.mk (BF5.out.below hb6)
  have HL6 := Sealed.mk (Kd.C_below HC5.out hb6)
  have HM6 := Sealed.mk hC6
  have HB6 := Sealed.mk (below_next HB5.out hb6)
  clear hb6 hC6 BE5 BF5 HC5 HB5
  obtain ⟨x0, x1, x2, x3, x4, x5, x6, x7⟩ := BE6.out.c
  go_wp2_with fail
  refine (sh_swap A6 c6 [aF, aG] 1 aG w6 HM6.out hc6 (ok2 okF okG) okG (by simp) (HT.out.of HB6.out)).mono ?_
  rw [aw_swp2]
  rintro _ w7 ⟨A7, c7, rfl, hc7, hC7, hb7, _⟩
  have BE7 := Sealed.mk (BE6.out.below hb7)
  have BF7 := Sealed.mk (BF6.out.below hb7)
  have HL7 := Sealed.mk (Kd.C_below HL6.out hb7)
  have HM7 := Sealed.mk (Kd.C_below HM6.out hb7)
  have HB7 := Sealed.mk (below_next HB6.out hb7)
  clear hb7 hC7 hc7 BE6 BF6 HL6 HM6 HB6 x0 x1 x2 x3 x4 x5 x6 x7
  obtain ⟨x0, x1, x2, x3, x4, x5, x6, x7⟩ := BF7.out.c
  go_wp2_with fail
  refine (sh_remove A6 c6 [aF, aG] aF.f0 w7 HM7.out hc6 (ok2 okF okG) (by simp) (HT.out.of HB7.out)).mono ?_
  rw [aw_rem]
  rintro _ w8 ⟨A8, c8, rfl, hc8, hC8, hb8, _⟩
  have BE8 := Sealed.mk (BE7.out.below hb8)
  have BF8 := Sealed.mk (BF7.out.below hb8)
  have HL8 := Sealed.mk (Kd.C_below HL7.out hb8)
  have HM8 := Sealed.mk (Kd.C_below HM7.out hb8)
  have HN8 := Sealed.mk hC8
  have HB8 := Sealed.mk (below_next HB7.out hb8)
  clear hb8 hC8 BE7 BF7 HL7 HM7 HB7 x0 x1 x2 x3 x4 x5 x6 x7
  obtain ⟨x0, x1, x2, x3, x4, x5, x6, x7⟩ := BE8.out.c
  go_wp2_with fail
  refine (sh_find A8 c8 [aG] aG.f0 (some aG) aw_fnd w8 HN8.out hc8 (by simp)).mono ?_
  rintro _ w9 ⟨rfl, hb9⟩
  obtain ⟨W10, hW10⟩ : ∃ W10, W10 = w9.alloc (bxE aG) := ⟨_, rfl⟩
  have hbA := below_alloc w9 (bxE aG)
  rw [← hW10] at hbA
  have BE10 := Sealed.mk ((BE8.out.below hb9).below hbA)
  have BF10 := Sealed.mk ((BF8.out.below hb9).below hbA)
  have BX10 : Sealed (BoxF W10 w9.heap.size aG) := ⟨by rw [hW10]; exact BoxF.new w9 aG⟩
  have HL10 := Sealed.mk (Kd.C_below (Kd.C_below HL8.out hb9) hbA)
  have HM10 := Sealed.mk (Kd.C_below (Kd.C_below HM8.out hb9) hbA)
  have HB10 := Sealed.mk (below_next (below_next HB8.out hb9) hbA)
  have HW := Sealed.mk hW10
  clear hb9 hW10 hbA BE8 BF8 HL8 HM8 HN8 HB8 x0 x1 x2 x3 x4 x5 x6 x7
  go_wp2_with fail
  rw [← HW.out]
  obtain ⟨ad4, rfl, p0, p1, p2, p3, p4, p5, p6, p7⟩ := at_e HL10.out rfl 0 (by simp)
  obtain ⟨ad6, rfl, q0, q1, q2, q3, q4, q5, q6, q7⟩ := at_e HM10.out rfl 1 (by simp)
  have e0 : ad4.add (0 * 8) = ad4 := by unfold Addr.add; simp
  have e1 : ad6.add (1 * 8) = ⟨ad6.block, ad6.off + 8, none⟩ := by unfold Addr.add; simp
  rw [e0] at p0 p1 p2 p3 p4 p5 p6 p7
  rw [e1] at q0 q1 q2 q3 q4 q5 q6 q7
  clear e0 e1
  have b1 := BE10.out.c
  have b2 := BF10.out.c
  have b3 := BX10.out.c
  have hbd := (Below.refl W10.heap.size W10).drew
  have HH : (fun w' => w'.cell? ad4 = some (.int .u32 1) ∧ w'.cell? ⟨ad4.block, ad4.off + 1, none⟩ = some (.string ⟨#[82, 82, 78, 48, 48, 48, 48, 48, 48, 48, 48, 49]⟩) ∧ w'.cell? ⟨ad4.block, ad4.off + 2, none⟩ = some (.int .i64 1) ∧ w'.cell? ⟨ad4.block, ad4.off + 3, none⟩ = some (.string ⟨#[49, 56]⟩) ∧ w'.cell? ⟨ad4.block, ad4.off + 4, none⟩ = some (.int .u64 5) ∧ w'.cell? ⟨ad4.block, ad4.off + 5, none⟩ = some (.string ⟨#[]⟩) ∧ w'.cell? ⟨ad4.block, ad4.off + 6, none⟩ = some (.int .i64 0) ∧ w'.cell? ⟨ad4.block, ad4.off + 7, none⟩ = some (.int .i64 0) ∧ w'.cell? ⟨ad6.block, ad6.off + 8, none⟩ = some (.int .u32 2) ∧ w'.cell? ⟨ad6.block, ad6.off + 9, none⟩ = some (.string ⟨#[82, 82, 78, 48, 48, 48, 48, 48, 48, 48, 48, 49]⟩) ∧ w'.cell? ⟨ad6.block, ad6.off + 10, none⟩ = some (.int .i64 2) ∧ w'.cell? ⟨ad6.block, ad6.off + 11, none⟩ = some (.string ⟨#[49, 56]⟩) ∧ w'.cell? ⟨ad6.block, ad6.off + 12, none⟩ = some (.int .u64 5) ∧ w'.cell? ⟨ad6.block, ad6.off + 13, none⟩ = some (.string ⟨#[48, 48]⟩) ∧ w'.cell? ⟨ad6.block, ad6.off + 14, none⟩ = some (.int .i64 0) ∧ w'.cell? ⟨ad6.block, ad6.off + 15, none⟩ = some (.int .i64 0) ∧ w'.cell? ⟨w.heap.size, 0, none⟩ = some (.int .u32 2) ∧ w'.cell? ⟨w.heap.size, 1, none⟩ = some (.string ⟨#[82, 82, 78, 48, 48, 48, 48, 48, 48, 48, 48, 49]⟩) ∧ w'.cell? ⟨w.heap.size, 2, none⟩ = some (.int .i64 2) ∧ w'.cell? ⟨w.heap.size, 3, none⟩ = some (.string ⟨#[49, 56]⟩) ∧ w'.cell? ⟨w.heap.size, 4, none⟩ = some (.int .u64 5) ∧ w'.cell? ⟨w.heap.size, 5, none⟩ = some (.string ⟨#[48, 48]⟩) ∧ w'.cell? ⟨w.heap.size, 6, none⟩ = some (.int .i64 0) ∧ w'.cell? ⟨w.heap.size, 7, none⟩ = some (.int .i64 0) ∧ w'.cell? ⟨w.heap.size + 1, 0, none⟩ = some (.int .u32 1) ∧ w'.cell? ⟨w.heap.size + 1, 1, none⟩ = some (.string ⟨#[82, 82, 78, 48, 48, 48, 48, 48, 48, 48, 48, 49]⟩) ∧ w'.cell? ⟨w.heap.size + 1, 2, none⟩ = some (.int .i64 1) ∧ w'.cell? ⟨w.heap.size + 1, 3, none⟩ = some (.string ⟨#[49, 56]⟩) ∧ w'.cell? ⟨w.heap.size + 1, 4, none⟩ = some (.int .u64 5) ∧ w'.cell? ⟨w.heap.size + 1, 5, none⟩ = some (.string ⟨#[]⟩) ∧ w'.cell? ⟨w.heap.size + 1, 6, none⟩ = some (.int .i64 0) ∧ w'.cell? ⟨w.heap.size + 1, 7, none⟩ = some (.int .i64 0) ∧ w'.cell? ⟨w9.heap.size, 0, none⟩ = some (.int .u32 2) ∧ w'.cell? ⟨w9.heap.size, 1, none⟩ = some (.string ⟨#[82, 82, 78, 48, 48, 48, 48, 48, 48, 48, 48, 49]⟩) ∧ w'.cell? ⟨w9.heap.size, 2, none⟩ = some (.int .i64 2) ∧ w'.cell? ⟨w9.heap.size, 3, none⟩ = some (.string ⟨#[49, 56]⟩) ∧ w'.cell? ⟨w9.heap.size, 4, none⟩ = some (.int .u64 5) ∧ w'.cell? ⟨w9.heap.size, 5, none⟩ = some (.string ⟨#[48, 48]⟩) ∧ w'.cell? ⟨w9.heap.size, 6, none⟩ = some (.int .i64 0) ∧ w'.cell? ⟨w9.heap.size, 7, none⟩ = some (.int .i64 0) ∧ Below W10.heap.size W10 w') W10.drew := ⟨p0, p1, p2, p3, p4, p5, p6, p7, q0, q1, q2, q3, q4, q5, q6, q7, b1.1, b1.2.1, b1.2.2.1, b1.2.2.2.1, b1.2.2.2.2.1, b1.2.2.2.2.2.1, b1.2.2.2.2.2.2.1, b1.2.2.2.2.2.2.2, b2.1, b2.2.1, b2.2.2.1, b2.2.2.2.1, b2.2.2.2.2.1, b2.2.2.2.2.2.1, b2.2.2.2.2.2.2.1, b2.2.2.2.2.2.2.2, b3.1, b3.2.1, b3.2.2.1, b3.2.2.2.1, b3.2.2.2.2.1, b3.2.2.2.2.2.1, b3.2.2.2.2.2.2.1, b3.2.2.2.2.2.2.2, hbd⟩
  have HHS := Sealed.mk HH
  clear p0 p1 p2 p3 p4 p5 p6 p7 q0 q1 q2 q3 q4 q5 q6 q7 b1 b2 b3 hbd HH
  refine wp_region_held_drew (S := fun w' => w'.cell? ad4 = some (.int .u32 1) ∧ w'.cell? ⟨ad4.block, ad4.off + 1, none⟩ = some (.string ⟨#[82, 82, 78, 48, 48, 48, 48, 48, 48, 48, 48, 49]⟩) ∧ w'.cell? ⟨ad4.block, ad4.off + 2, none⟩ = some (.int .i64 1) ∧ w'.cell? ⟨ad4.block, ad4.off + 3, none⟩ = some (.string ⟨#[49, 56]⟩) ∧ w'.cell? ⟨ad4.block, ad4.off + 4, none⟩ = some (.int .u64 5) ∧ w'.cell? ⟨ad4.block, ad4.off + 5, none⟩ = some (.string ⟨#[]⟩) ∧ w'.cell? ⟨ad4.block, ad4.off + 6, none⟩ = some (.int .i64 0) ∧ w'.cell? ⟨ad4.block, ad4.off + 7, none⟩ = some (.int .i64 0) ∧ w'.cell? ⟨ad6.block, ad6.off + 8, none⟩ = some (.int .u32 2) ∧ w'.cell? ⟨ad6.block, ad6.off + 9, none⟩ = some (.string ⟨#[82, 82, 78, 48, 48, 48, 48, 48, 48, 48, 48, 49]⟩) ∧ w'.cell? ⟨ad6.block, ad6.off + 10, none⟩ = some (.int .i64 2) ∧ w'.cell? ⟨ad6.block, ad6.off + 11, none⟩ = some (.string ⟨#[49, 56]⟩) ∧ w'.cell? ⟨ad6.block, ad6.off + 12, none⟩ = some (.int .u64 5) ∧ w'.cell? ⟨ad6.block, ad6.off + 13, none⟩ = some (.string ⟨#[48, 48]⟩) ∧ w'.cell? ⟨ad6.block, ad6.off + 14, none⟩ = some (.int .i64 0) ∧ w'.cell? ⟨ad6.block, ad6.off + 15, none⟩ = some (.int .i64 0) ∧ w'.cell? ⟨w.heap.size, 0, none⟩ = some (.int .u32 2) ∧ w'.cell? ⟨w.heap.size, 1, none⟩ = some (.string ⟨#[82, 82, 78, 48, 48, 48, 48, 48, 48, 48, 48, 49]⟩) ∧ w'.cell? ⟨w.heap.size, 2, none⟩ = some (.int .i64 2) ∧ w'.cell? ⟨w.heap.size, 3, none⟩ = some (.string ⟨#[49, 56]⟩) ∧ w'.cell? ⟨w.heap.size, 4, none⟩ = some (.int .u64 5) ∧ w'.cell? ⟨w.heap.size, 5, none⟩ = some (.string ⟨#[48, 48]⟩) ∧ w'.cell? ⟨w.heap.size, 6, none⟩ = some (.int .i64 0) ∧ w'.cell? ⟨w.heap.size, 7, none⟩ = some (.int .i64 0) ∧ w'.cell? ⟨w.heap.size + 1, 0, none⟩ = some (.int .u32 1) ∧ w'.cell? ⟨w.heap.size + 1, 1, none⟩ = some (.string ⟨#[82, 82, 78, 48, 48, 48, 48, 48, 48, 48, 48, 49]⟩) ∧ w'.cell? ⟨w.heap.size + 1, 2, none⟩ = some (.int .i64 1) ∧ w'.cell? ⟨w.heap.size + 1, 3, none⟩ = some (.string ⟨#[49, 56]⟩) ∧ w'.cell? ⟨w.heap.size + 1, 4, none⟩ = some (.int .u64 5) ∧ w'.cell? ⟨w.heap.size + 1, 5, none⟩ = some (.string ⟨#[]⟩) ∧ w'.cell? ⟨w.heap.size + 1, 6, none⟩ = some (.int .i64 0) ∧ w'.cell? ⟨w.heap.size + 1, 7, none⟩ = some (.int .i64 0) ∧ w'.cell? ⟨w9.heap.size, 0, none⟩ = some (.int .u32 2) ∧ w'.cell? ⟨w9.heap.size, 1, none⟩ = some (.string ⟨#[82, 82, 78, 48, 48, 48, 48, 48, 48, 48, 48, 49]⟩) ∧ w'.cell? ⟨w9.heap.size, 2, none⟩ = some (.int .i64 2) ∧ w'.cell? ⟨w9.heap.size, 3, none⟩ = some (.string ⟨#[49, 56]⟩) ∧ w'.cell? ⟨w9.heap.size, 4, none⟩ = some (.int .u64 5) ∧ w'.cell? ⟨w9.heap.size, 5, none⟩ = some (.string ⟨#[48, 48]⟩) ∧ w'.cell? ⟨w9.heap.size, 6, none⟩ = some (.int .i64 0) ∧ w'.cell? ⟨w9.heap.size, 7, none⟩ = some (.int .i64 0) ∧ Below W10.heap.size W10 w') (by kernel_rfl) (HHS.out) (fun hHeld => ?_)
  refine wpAnyH_take (i := 0) (oi := { dst := some 53, op := Op.move (Operand.tmp 4), type := 36, pos := "law.go:22", after := #[], guard := none }) (v := ?vr1_0) rfl (by kernel_rfl) (by kernel_rfl) (by kernel_rfl) (fun _ _ _ h => h) (Or.inl ⟨by rfl, ?hyr1_0⟩) (by assumption) ?restr1_0
  case hyr1_0 => (intro wS hS; (try dsimp only at hS); go_simp; (try with_reducible rfl))
  (try simp only [Act.put, List.setIfInBounds_toArray, List.set_cons_zero, List.set_cons_succ])
  refine wpAnyH_take (i := 1) (oi := { dst := some 54, op := Op.binOp BinOp.eql 36 (Operand.tmp 53) (Operand.const (Value.int IntKind.i64 0)) 36, type := 4, pos := "law.go:22", after := #[{ on := 0, ground := Ground.data }], guard := none }) (v := ?vr1_1) rfl (by kernel_rfl) (by kernel_rfl) (by kernel_rfl) (fun _ _ _ h => h) (Or.inl ⟨by rfl, ?hyr1_1⟩) (by assumption) ?restr1_1
  case hyr1_1 => (intro wS hS; (try dsimp only at hS); go_simp; (try with_reducible rfl))
  (try simp only [Act.put, List.setIfInBounds_toArray, List.set_cons_zero, List.set_cons_succ])
  refine wpAnyH_take (i := 2) (oi := { dst := some 55, op := Op.move (Operand.tmp 54), type := 4, pos := "law.go:22", after := #[{ on := 1, ground := Ground.data }], guard := none }) (v := ?vr1_2) rfl (by kernel_rfl) (by kernel_rfl) (by kernel_rfl) (fun _ _ _ h => h) (Or.inl ⟨by rfl, ?hyr1_2⟩) (by assumption) ?restr1_2
  case hyr1_2 => (intro wS hS; (try dsimp only at hS); go_simp; (try with_reducible rfl))
  (try simp only [Act.put, List.setIfInBounds_toArray, List.set_cons_zero, List.set_cons_succ])
  refine wpAnyH_take (i := 3) (oi := { dst := some 56, op := Op.move (Operand.tmp 6), type := 36, pos := "law.go:22", after := #[{ on := 2, ground := Ground.guard }], guard := some (2, true) }) (v := ?vr1_3) rfl (by kernel_rfl) (by kernel_rfl) (by kernel_rfl) (fun _ _ _ h => h) (Or.inl ⟨by rfl, ?hyr1_3⟩) (by assumption) ?restr1_3
  case hyr1_3 => (intro wS hS; (try dsimp only at hS); go_simp; (try with_reducible rfl))
  (try simp only [Act.put, List.setIfInBounds_toArray, List.set_cons_zero, List.set_cons_succ])
  refine wpAnyH_take (i := 4) (oi := { dst := some 57, op := Op.binOp BinOp.eql 36 (Operand.tmp 56) (Operand.const (Value.int IntKind.i64 0)) 36, type := 4, pos := "law.go:22", after := #[{ on := 3, ground := Ground.data }, { on := 2, ground := Ground.guard }], guard := some (2, true) }) (v := ?vr1_4) rfl (by kernel_rfl) (by kernel_rfl) (by kernel_rfl) (fun _ _ _ h => h) (Or.inl ⟨by rfl, ?hyr1_4⟩) (by assumption) ?restr1_4
  case hyr1_4 => (intro wS hS; (try dsimp only at hS); go_simp; (try with_reducible rfl))
  (try simp only [Act.put, List.setIfInBounds_toArray, List.set_cons_zero, List.set_cons_succ])
  refine wpAnyH_take (i := 5) (oi := { dst := some 58, op := Op.pick (Operand.tmp 55) (Operand.tmp 57) (Operand.const (Value.bool false)), type := 4, pos := "law.go:22", after := #[{ on := 2, ground := Ground.data }, { on := 4, ground := Ground.data }], guard := none }) (v := ?vr1_5) rfl (by kernel_rfl) (by kernel_rfl) (by kernel_rfl) (fun _ _ _ h => h) (Or.inl ⟨by rfl, ?hyr1_5⟩) (by assumption) ?restr1_5
  case hyr1_5 => (intro wS hS; (try dsimp only at hS); go_simp; (try with_reducible rfl))
  (try simp only [Act.put, List.setIfInBounds_toArray, List.set_cons_zero, List.set_cons_succ])
  refine wpAnyH_take (i := 6) (oi := { dst := some 59, op := Op.move (Operand.tmp 58), type := 4, pos := "law.go:22", after := #[{ on := 5, ground := Ground.data }, { on := 2, ground := Ground.chain }], guard := none }) (v := ?vr1_6) rfl (by kernel_rfl) (by kernel_rfl) (by kernel_rfl) (fun _ _ _ h => h) (Or.inl ⟨by rfl, ?hyr1_6⟩) (by assumption) ?restr1_6
  case hyr1_6 => (intro wS hS; (try dsimp only at hS); go_simp; (try with_reducible rfl))
  (try simp only [Act.put, List.setIfInBounds_toArray, List.set_cons_zero, List.set_cons_succ])
  refine wpAnyH_take (i := 7) (oi := { dst := some 60, op := Op.move (Operand.tmp 8), type := 36, pos := "law.go:22", after := #[{ on := 6, ground := Ground.guard }], guard := some (6, true) }) (v := ?vr1_7) rfl (by kernel_rfl) (by kernel_rfl) (by kernel_rfl) (fun _ _ _ h => h) (Or.inl ⟨by rfl, ?hyr1_7⟩) (by assumption) ?restr1_7
  case hyr1_7 => (intro wS hS; (try dsimp only at hS); go_simp; (try with_reducible rfl))
  (try simp only [Act.put, List.setIfInBounds_toArray, List.set_cons_zero, List.set_cons_succ])
  refine wpAnyH_take (i := 8) (oi := { dst := some 61, op := Op.binOp BinOp.eql 36 (Operand.tmp 60) (Operand.const (Value.int IntKind.i64 8)) 36, type := 4, pos := "law.go:22", after := #[{ on := 7, ground := Ground.data }, { on := 6, ground := Ground.guard }], guard := some (6, true) }) (v := ?vr1_8) rfl (by kernel_rfl) (by kernel_rfl) (by kernel_rfl) (fun _ _ _ h => h) (Or.inl ⟨by rfl, ?hyr1_8⟩) (by assumption) ?restr1_8
  case hyr1_8 => (intro wS hS; (try dsimp only at hS); go_simp; (try with_reducible rfl))
  (try simp only [Act.put, List.setIfInBounds_toArray, List.set_cons_zero, List.set_cons_succ])
  refine wpAnyH_take (i := 9) (oi := { dst := some 62, op := Op.pick (Operand.tmp 59) (Operand.tmp 61) (Operand.const (Value.bool false)), type := 4, pos := "law.go:22", after := #[{ on := 6, ground := Ground.data }, { on := 8, ground := Ground.data }], guard := none }) (v := ?vr1_9) rfl (by kernel_rfl) (by kernel_rfl) (by kernel_rfl) (fun _ _ _ h => h) (Or.inl ⟨by rfl, ?hyr1_9⟩) (by assumption) ?restr1_9
  case hyr1_9 => (intro wS hS; (try dsimp only at hS); go_simp; (try with_reducible rfl))
  (try simp only [Act.put, List.setIfInBounds_toArray, List.set_cons_zero, List.set_cons_succ])
  refine wpAnyH_take (i := 10) (oi := { dst := some 63, op := Op.move (Operand.tmp 62), type := 4, pos := "law.go:22", after := #[{ on := 9, ground := Ground.data }, { on := 6, ground := Ground.chain }], guard := none }) (v := ?vr1_10) rfl (by kernel_rfl) (by kernel_rfl) (by kernel_rfl) (fun _ _ _ h => h) (Or.inl ⟨by rfl, ?hyr1_10⟩) (by assumption) ?restr1_10
  case hyr1_10 => (intro wS hS; (try dsimp only at hS); go_simp; (try with_reducible rfl))
  (try simp only [Act.put, List.setIfInBounds_toArray, List.set_cons_zero, List.set_cons_succ])
  refine wpAnyH_take (i := 11) (oi := { dst := some 64, op := Op.move (Operand.tmp 10), type := 36, pos := "law.go:22", after := #[{ on := 10, ground := Ground.guard }], guard := some (10, true) }) (v := ?vr1_11) rfl (by kernel_rfl) (by kernel_rfl) (by kernel_rfl) (fun _ _ _ h => h) (Or.inl ⟨by rfl, ?hyr1_11⟩) (by assumption) ?restr1_11
  case hyr1_11 => (intro wS hS; (try dsimp only at hS); go_simp; (try with_reducible rfl))
  (try simp only [Act.put, List.setIfInBounds_toArray, List.set_cons_zero, List.set_cons_succ])
  refine wpAnyH_take (i := 12) (oi := { dst := some 65, op := Op.binOp BinOp.eql 36 (Operand.tmp 64) (Operand.const (Value.int IntKind.i64 0)) 36, type := 4, pos := "law.go:22", after := #[{ on := 11, ground := Ground.data }, { on := 10, ground := Ground.guard }], guard := some (10, true) }) (v := ?vr1_12) rfl (by kernel_rfl) (by kernel_rfl) (by kernel_rfl) (fun _ _ _ h => h) (Or.inl ⟨by rfl, ?hyr1_12⟩) (by assumption) ?restr1_12
  case hyr1_12 => (intro wS hS; (try dsimp only at hS); go_simp; (try with_reducible rfl))
  (try simp only [Act.put, List.setIfInBounds_toArray, List.set_cons_zero, List.set_cons_succ])
  refine wpAnyH_take (i := 13) (oi := { dst := some 66, op := Op.pick (Operand.tmp 63) (Operand.tmp 65) (Operand.const (Value.bool false)), type := 4, pos := "law.go:22", after := #[{ on := 10, ground := Ground.data }, { on := 12, ground := Ground.data }], guard := none }) (v := ?vr1_13) rfl (by kernel_rfl) (by kernel_rfl) (by kernel_rfl) (fun _ _ _ h => h) (Or.inl ⟨by rfl, ?hyr1_13⟩) (by assumption) ?restr1_13
  case hyr1_13 => (intro wS hS; (try dsimp only at hS); go_simp; (try with_reducible rfl))
  (try simp only [Act.put, List.setIfInBounds_toArray, List.set_cons_zero, List.set_cons_succ])
  refine wpAnyH_take (i := 14) (oi := { dst := some 67, op := Op.move (Operand.tmp 66), type := 4, pos := "law.go:22", after := #[{ on := 13, ground := Ground.data }, { on := 10, ground := Ground.chain }], guard := none }) (v := ?vr1_14) rfl (by kernel_rfl) (by kernel_rfl) (by kernel_rfl) (fun _ _ _ h => h) (Or.inl ⟨by rfl, ?hyr1_14⟩) (by assumption) ?restr1_14
  case hyr1_14 => (intro wS hS; (try dsimp only at hS); go_simp; (try with_reducible rfl))
  (try simp only [Act.put, List.setIfInBounds_toArray, List.set_cons_zero, List.set_cons_succ])
  refine wpAnyH_take (i := 15) (oi := { dst := some 68, op := Op.move (Operand.tmp 3), type := 22, pos := "law.go:22", after := #[{ on := 14, ground := Ground.guard }], guard := some (14, true) }) (v := ?vr1_15) rfl (by kernel_rfl) (by kernel_rfl) (by kernel_rfl) (fun _ _ _ h => h) (Or.inl ⟨by rfl, ?hyr1_15⟩) (by assumption) ?restr1_15
  case hyr1_15 => (intro wS hS; (try dsimp only at hS); go_simp; (try with_reducible rfl))
  (try simp only [Act.put, List.setIfInBounds_toArray, List.set_cons_zero, List.set_cons_succ])
  refine wpAnyH_take (i := 16) (oi := { dst := some 69, op := Op.call { callee := Callee.builtin Builtin.len, args := #[Operand.tmp 68], argTypes := #[22] }, type := 3, pos := "law.go:22", after := #[{ on := 15, ground := Ground.data }, { on := 14, ground := Ground.guard }], guard := some (14, true) }) (v := ?vr1_16) rfl (by kernel_rfl) (by kernel_rfl) (by kernel_rfl) (fun _ _ _ h => h) (Or.inl ⟨by rfl, ?hyr1_16⟩) (by assumption) ?restr1_16
  case hyr1_16 => (intro wS hS; (try dsimp only at hS); go_simp; (try with_reducible rfl))
  (try simp only [Act.put, List.setIfInBounds_toArray, List.set_cons_zero, List.set_cons_succ])
  refine wpAnyH_take (i := 17) (oi := { dst := some 70, op := Op.binOp BinOp.eql 3 (Operand.tmp 69) (Operand.const (Value.int IntKind.i64 2)) 3, type := 4, pos := "law.go:22", after := #[{ on := 16, ground := Ground.data }, { on := 14, ground := Ground.guard }], guard := some (14, true) }) (v := ?vr1_17) rfl (by kernel_rfl) (by kernel_rfl) (by kernel_rfl) (fun _ _ _ h => h) (Or.inl ⟨by rfl, ?hyr1_17⟩) (by assumption) ?restr1_17
  case hyr1_17 => (intro wS hS; (try dsimp only at hS); go_simp; (try with_reducible rfl))
  (try simp only [Act.put, List.setIfInBounds_toArray, List.set_cons_zero, List.set_cons_succ])
  refine wpAnyH_take (i := 18) (oi := { dst := some 71, op := Op.pick (Operand.tmp 67) (Operand.tmp 70) (Operand.const (Value.bool false)), type := 4, pos := "law.go:22", after := #[{ on := 14, ground := Ground.data }, { on := 17, ground := Ground.data }], guard := none }) (v := ?vr1_18) rfl (by kernel_rfl) (by kernel_rfl) (by kernel_rfl) (fun _ _ _ h => h) (Or.inl ⟨by rfl, ?hyr1_18⟩) (by assumption) ?restr1_18
  case hyr1_18 => (intro wS hS; (try dsimp only at hS); go_simp; (try with_reducible rfl))
  (try simp only [Act.put, List.setIfInBounds_toArray, List.set_cons_zero, List.set_cons_succ])
  refine wpAnyH_take (i := 19) (oi := { dst := some 72, op := Op.move (Operand.tmp 71), type := 4, pos := "law.go:22", after := #[{ on := 18, ground := Ground.data }, { on := 14, ground := Ground.chain }], guard := none }) (v := ?vr1_19) rfl (by kernel_rfl) (by kernel_rfl) (by kernel_rfl) (fun _ _ _ h => h) (Or.inl ⟨by rfl, ?hyr1_19⟩) (by assumption) ?restr1_19
  case hyr1_19 => (intro wS hS; (try dsimp only at hS); go_simp; (try with_reducible rfl))
  (try simp only [Act.put, List.setIfInBounds_toArray, List.set_cons_zero, List.set_cons_succ])
  refine wpAnyH_take (i := 20) (oi := { dst := some 73, op := Op.move (Operand.tmp 3), type := 22, pos := "law.go:22", after := #[{ on := 19, ground := Ground.guard }], guard := some (19, true) }) (v := ?vr1_20) rfl (by kernel_rfl) (by kernel_rfl) (by kernel_rfl) (fun _ _ _ h => h) (Or.inl ⟨by rfl, ?hyr1_20⟩) (by assumption) ?restr1_20
  case hyr1_20 => (intro wS hS; (try dsimp only at hS); go_simp; (try with_reducible rfl))
  (try simp only [Act.put, List.setIfInBounds_toArray, List.set_cons_zero, List.set_cons_succ])
  refine wpAnyH_take (i := 21) (oi := { dst := some 74, op := Op.indexAddr 22 (Operand.tmp 73) (Operand.const (Value.int IntKind.i64 0)), type := 0, pos := "law.go:22", after := #[{ on := 20, ground := Ground.data }, { on := 19, ground := Ground.guard }], guard := some (19, true) }) (v := ?vr1_21) rfl (by kernel_rfl) (by kernel_rfl) (by kernel_rfl) (fun _ _ _ h => h) (Or.inl ⟨by rfl, ?hyr1_21⟩) (by assumption) ?restr1_21
  case hyr1_21 => (intro wS hS; (try dsimp only at hS); go_simp; (try with_reducible rfl))
  (try simp only [Act.put, List.setIfInBounds_toArray, List.set_cons_zero, List.set_cons_succ])
  refine wpAnyH_take (i := 22) (oi := { dst := some 75, op := Op.load 28 (Operand.tmp 74), type := 28, pos := "law.go:22", after := #[{ on := 21, ground := Ground.data }, { on := 19, ground := Ground.guard }], guard := some (19, true) }) (v := ?vr1_22) rfl (by kernel_rfl) (by kernel_rfl) (by kernel_rfl) (fun _ _ _ h => h) (Or.inl ⟨by rfl, ?hyr1_22⟩) (by assumption) ?restr1_22
  case hyr1_22 => (intro wS hS; (try dsimp only at hS); go_simp; (try with_reducible rfl))
  (try simp only [Act.put, List.setIfInBounds_toArray, List.set_cons_zero, List.set_cons_succ])
  refine wpAnyH_take (i := 23) (oi := { dst := some 76, op := Op.load 28 (Operand.tmp 2), type := 28, pos := "law.go:22", after := #[{ on := 19, ground := Ground.guard }], guard := some (19, true) }) (v := ?vr1_23) rfl (by kernel_rfl) (by kernel_rfl) (by kernel_rfl) (fun _ _ _ h => h) (Or.inl ⟨by rfl, ?hyr1_23⟩) (by assumption) ?restr1_23
  case hyr1_23 => (intro wS hS; (try dsimp only at hS); go_simp; (try with_reducible rfl))
  (try simp only [Act.put, List.setIfInBounds_toArray, List.set_cons_zero, List.set_cons_succ])
  refine wpAnyH_take (i := 24) (oi := { dst := some 77, op := Op.binOp BinOp.eql 28 (Operand.tmp 75) (Operand.tmp 76) 28, type := 4, pos := "law.go:22", after := #[{ on := 22, ground := Ground.data }, { on := 23, ground := Ground.data }, { on := 19, ground := Ground.guard }], guard := some (19, true) }) (v := ?vr1_24) rfl (by kernel_rfl) (by kernel_rfl) (by kernel_rfl) (fun _ _ _ h => h) (Or.inl ⟨by rfl, ?hyr1_24⟩) (by assumption) ?restr1_24
  case hyr1_24 => (intro wS hS; (try dsimp only at hS); go_simp; (try with_reducible rfl))
  (try simp only [Act.put, List.setIfInBounds_toArray, List.set_cons_zero, List.set_cons_succ])
  refine wpAnyH_take (i := 25) (oi := { dst := some 78, op := Op.pick (Operand.tmp 72) (Operand.tmp 77) (Operand.const (Value.bool false)), type := 4, pos := "law.go:22", after := #[{ on := 19, ground := Ground.data }, { on := 24, ground := Ground.data }], guard := none }) (v := ?vr1_25) rfl (by kernel_rfl) (by kernel_rfl) (by kernel_rfl) (fun _ _ _ h => h) (Or.inl ⟨by rfl, ?hyr1_25⟩) (by assumption) ?restr1_25
  case hyr1_25 => (intro wS hS; (try dsimp only at hS); go_simp; (try with_reducible rfl))
  (try simp only [Act.put, List.setIfInBounds_toArray, List.set_cons_zero, List.set_cons_succ])
  refine wpAnyH_take (i := 26) (oi := { dst := some 79, op := Op.move (Operand.tmp 78), type := 4, pos := "law.go:22", after := #[{ on := 25, ground := Ground.data }, { on := 19, ground := Ground.chain }], guard := none }) (v := ?vr1_26) rfl (by kernel_rfl) (by kernel_rfl) (by kernel_rfl) (fun _ _ _ h => h) (Or.inl ⟨by rfl, ?hyr1_26⟩) (by assumption) ?restr1_26
  case hyr1_26 => (intro wS hS; (try dsimp only at hS); go_simp; (try with_reducible rfl))
  (try simp only [Act.put, List.setIfInBounds_toArray, List.set_cons_zero, List.set_cons_succ])
  refine wpAnyH_take (i := 27) (oi := { dst := some 80, op := Op.move (Operand.tmp 5), type := 22, pos := "law.go:22", after := #[{ on := 26, ground := Ground.guard }], guard := some (26, true) }) (v := ?vr1_27) rfl (by kernel_rfl) (by kernel_rfl) (by kernel_rfl) (fun _ _ _ h => h) (Or.inl ⟨by rfl, ?hyr1_27⟩) (by assumption) ?restr1_27
  case hyr1_27 => (intro wS hS; (try dsimp only at hS); go_simp; (try with_reducible rfl))
  (try simp only [Act.put, List.setIfInBounds_toArray, List.set_cons_zero, List.set_cons_succ])
  refine wpAnyH_take (i := 28) (oi := { dst := some 81, op := Op.indexAddr 22 (Operand.tmp 80) (Operand.const (Value.int IntKind.i64 1)), type := 0, pos := "law.go:22", after := #[{ on := 27, ground := Ground.data }, { on := 26, ground := Ground.guard }], guard := some (26, true) }) (v := ?vr1_28) rfl (by kernel_rfl) (by kernel_rfl) (by kernel_rfl) (fun _ _ _ h => h) (Or.inl ⟨by rfl, ?hyr1_28⟩) (by assumption) ?restr1_28
  case hyr1_28 => (intro wS hS; (try dsimp only at hS); go_simp; (try with_reducible rfl))
  (try simp only [Act.put, List.setIfInBounds_toArray, List.set_cons_zero, List.set_cons_succ])
  refine wpAnyH_take (i := 29) (oi := { dst := some 82, op := Op.load 28 (Operand.tmp 81), type := 28, pos := "law.go:22", after := #[{ on := 28, ground := Ground.data }, { on := 26, ground := Ground.guard }], guard := some (26, true) }) (v := ?vr1_29) rfl (by kernel_rfl) (by kernel_rfl) (by kernel_rfl) (fun _ _ _ h => h) (Or.inl ⟨by rfl, ?hyr1_29⟩) (by assumption) ?restr1_29
  case hyr1_29 => (intro wS hS; (try dsimp only at hS); go_simp; (try with_reducible rfl))
  (try simp only [Act.put, List.setIfInBounds_toArray, List.set_cons_zero, List.set_cons_succ])
  refine wpAnyH_take (i := 30) (oi := { dst := some 83, op := Op.load 28 (Operand.tmp 1), type := 28, pos := "law.go:22", after := #[{ on := 26, ground := Ground.guard }], guard := some (26, true) }) (v := ?vr1_30) rfl (by kernel_rfl) (by kernel_rfl) (by kernel_rfl) (fun _ _ _ h => h) (Or.inl ⟨by rfl, ?hyr1_30⟩) (by assumption) ?restr1_30
  case hyr1_30 => (intro wS hS; (try dsimp only at hS); go_simp; (try with_reducible rfl))
  (try simp only [Act.put, List.setIfInBounds_toArray, List.set_cons_zero, List.set_cons_succ])
  refine wpAnyH_take (i := 31) (oi := { dst := some 84, op := Op.binOp BinOp.eql 28 (Operand.tmp 82) (Operand.tmp 83) 28, type := 4, pos := "law.go:22", after := #[{ on := 29, ground := Ground.data }, { on := 30, ground := Ground.data }, { on := 26, ground := Ground.guard }], guard := some (26, true) }) (v := ?vr1_31) rfl (by kernel_rfl) (by kernel_rfl) (by kernel_rfl) (fun _ _ _ h => h) (Or.inl ⟨by rfl, ?hyr1_31⟩) (by assumption) ?restr1_31
  case hyr1_31 => (intro wS hS; (try dsimp only at hS); go_simp; (try with_reducible rfl))
  (try simp only [Act.put, List.setIfInBounds_toArray, List.set_cons_zero, List.set_cons_succ])
  refine wpAnyH_take (i := 32) (oi := { dst := some 85, op := Op.pick (Operand.tmp 79) (Operand.tmp 84) (Operand.const (Value.bool false)), type := 4, pos := "law.go:22", after := #[{ on := 26, ground := Ground.data }, { on := 31, ground := Ground.data }], guard := none }) (v := ?vr1_32) rfl (by kernel_rfl) (by kernel_rfl) (by kernel_rfl) (fun _ _ _ h => h) (Or.inl ⟨by rfl, ?hyr1_32⟩) (by assumption) ?restr1_32
  case hyr1_32 => (intro wS hS; (try dsimp only at hS); go_simp; (try with_reducible rfl))
  (try simp only [Act.put, List.setIfInBounds_toArray, List.set_cons_zero, List.set_cons_succ])
  refine wpAnyH_take (i := 33) (oi := { dst := some 86, op := Op.move (Operand.tmp 85), type := 4, pos := "law.go:22", after := #[{ on := 32, ground := Ground.data }, { on := 26, ground := Ground.chain }], guard := none }) (v := ?vr1_33) rfl (by kernel_rfl) (by kernel_rfl) (by kernel_rfl) (fun _ _ _ h => h) (Or.inl ⟨by rfl, ?hyr1_33⟩) (by assumption) ?restr1_33
  case hyr1_33 => (intro wS hS; (try dsimp only at hS); go_simp; (try with_reducible rfl))
  (try simp only [Act.put, List.setIfInBounds_toArray, List.set_cons_zero, List.set_cons_succ])
  refine wpAnyH_take (i := 34) (oi := { dst := some 87, op := Op.move (Operand.tmp 12), type := 4, pos := "law.go:22", after := #[{ on := 33, ground := Ground.guard }], guard := some (33, true) }) (v := ?vr1_34) rfl (by kernel_rfl) (by kernel_rfl) (by kernel_rfl) (fun _ _ _ h => h) (Or.inl ⟨by rfl, ?hyr1_34⟩) (by assumption) ?restr1_34
  case hyr1_34 => (intro wS hS; (try dsimp only at hS); go_simp; (try with_reducible rfl))
  (try simp only [Act.put, List.setIfInBounds_toArray, List.set_cons_zero, List.set_cons_succ])
  refine wpAnyH_take (i := 35) (oi := { dst := some 88, op := Op.pick (Operand.tmp 86) (Operand.tmp 87) (Operand.const (Value.bool false)), type := 4, pos := "law.go:22", after := #[{ on := 33, ground := Ground.data }, { on := 34, ground := Ground.data }], guard := none }) (v := ?vr1_35) rfl (by kernel_rfl) (by kernel_rfl) (by kernel_rfl) (fun _ _ _ h => h) (Or.inl ⟨by rfl, ?hyr1_35⟩) (by assumption) ?restr1_35
  case hyr1_35 => (intro wS hS; (try dsimp only at hS); go_simp; (try with_reducible rfl))
  (try simp only [Act.put, List.setIfInBounds_toArray, List.set_cons_zero, List.set_cons_succ])
  refine wpAnyH_take (i := 36) (oi := { dst := some 89, op := Op.move (Operand.tmp 88), type := 4, pos := "law.go:22", after := #[{ on := 35, ground := Ground.data }, { on := 33, ground := Ground.chain }], guard := none }) (v := ?vr1_36) rfl (by kernel_rfl) (by kernel_rfl) (by kernel_rfl) (fun _ _ _ h => h) (Or.inl ⟨by rfl, ?hyr1_36⟩) (by assumption) ?restr1_36
  case hyr1_36 => (intro wS hS; (try dsimp only at hS); go_simp; (try with_reducible rfl))
  (try simp only [Act.put, List.setIfInBounds_toArray, List.set_cons_zero, List.set_cons_succ])
  refine wpAnyH_take (i := 37) (oi := { dst := some 90, op := Op.load 28 (Operand.tmp 11), type := 28, pos := "law.go:22", after := #[{ on := 36, ground := Ground.guard }], guard := some (36, true) }) (v := ?vr1_37) rfl (by kernel_rfl) (by kernel_rfl) (by kernel_rfl) (fun _ _ _ h => h) (Or.inl ⟨by rfl, ?hyr1_37⟩) (by assumption) ?restr1_37
  case hyr1_37 => (intro wS hS; (try dsimp only at hS); go_simp; (try with_reducible rfl))
  (try simp only [Act.put, List.setIfInBounds_toArray, List.set_cons_zero, List.set_cons_succ])
  refine wpAnyH_take (i := 38) (oi := { dst := some 91, op := Op.load 28 (Operand.tmp 1), type := 28, pos := "law.go:22", after := #[{ on := 36, ground := Ground.guard }], guard := some (36, true) }) (v := ?vr1_38) rfl (by kernel_rfl) (by kernel_rfl) (by kernel_rfl) (fun _ _ _ h => h) (Or.inl ⟨by rfl, ?hyr1_38⟩) (by assumption) ?restr1_38
  case hyr1_38 => (intro wS hS; (try dsimp only at hS); go_simp; (try with_reducible rfl))
  (try simp only [Act.put, List.setIfInBounds_toArray, List.set_cons_zero, List.set_cons_succ])
  refine wpAnyH_take (i := 39) (oi := { dst := some 92, op := Op.binOp BinOp.eql 28 (Operand.tmp 90) (Operand.tmp 91) 28, type := 4, pos := "law.go:22", after := #[{ on := 37, ground := Ground.data }, { on := 38, ground := Ground.data }, { on := 36, ground := Ground.guard }], guard := some (36, true) }) (v := ?vr1_39) rfl (by kernel_rfl) (by kernel_rfl) (by kernel_rfl) (fun _ _ _ h => h) (Or.inl ⟨by rfl, ?hyr1_39⟩) (by assumption) ?restr1_39
  case hyr1_39 => (intro wS hS; (try dsimp only at hS); go_simp; (try with_reducible rfl))
  (try simp only [Act.put, List.setIfInBounds_toArray, List.set_cons_zero, List.set_cons_succ])
  refine wpAnyH_take (i := 40) (oi := { dst := some 93, op := Op.pick (Operand.tmp 89) (Operand.tmp 92) (Operand.const (Value.bool false)), type := 4, pos := "law.go:22", after := #[{ on := 36, ground := Ground.data }, { on := 39, ground := Ground.data }], guard := none }) (v := ?vr1_40) rfl (by kernel_rfl) (by kernel_rfl) (by kernel_rfl) (fun _ _ _ h => h) (Or.inl ⟨by rfl, ?hyr1_40⟩) (by assumption) ?restr1_40
  case hyr1_40 => (intro wS hS; (try dsimp only at hS); go_simp; (try with_reducible rfl))
  (try simp only [Act.put, List.setIfInBounds_toArray, List.set_cons_zero, List.set_cons_succ])
  refine wpAnyH_take (i := 41) (oi := { dst := some 94, op := Op.move (Operand.tmp 93), type := 4, pos := "law.go:22", after := #[{ on := 40, ground := Ground.data }, { on := 36, ground := Ground.chain }], guard := none }) (v := ?vr1_41) rfl (by kernel_rfl) (by kernel_rfl) (by kernel_rfl) (fun _ _ _ h => h) (Or.inl ⟨by rfl, ?hyr1_41⟩) (by assumption) ?restr1_41
  case hyr1_41 => (intro wS hS; (try dsimp only at hS); go_simp; (try with_reducible rfl))
  (try simp only [Act.put, List.setIfInBounds_toArray, List.set_cons_zero, List.set_cons_succ])
  refine wpAnyH_take (i := 42) (oi := { dst := some 95, op := Op.move (Operand.tmp 3), type := 22, pos := "law.go:22", after := #[{ on := 41, ground := Ground.guard }], guard := some (41, true) }) (v := ?vr1_42) rfl (by kernel_rfl) (by kernel_rfl) (by kernel_rfl) (fun _ _ _ h => h) (Or.inl ⟨by rfl, ?hyr1_42⟩) (by assumption) ?restr1_42
  case hyr1_42 => (intro wS hS; (try dsimp only at hS); go_simp; (try with_reducible rfl))
  (try simp only [Act.put, List.setIfInBounds_toArray, List.set_cons_zero, List.set_cons_succ])
  refine wpAnyH_ready (rs := [43]) (by kernel_rfl) (by simp) (AllReadyH.cons (o := { dst := some 96, op := Op.call { callee := Callee.value (Operand.func 23), args := #[Operand.tmp 95], argTypes := #[22] }, type := 4, pos := "law.go:22", after := #[{ on := 42, ground := Ground.data }, { on := 41, ground := Ground.chain }, { on := 41, ground := Ground.guard }], guard := some (41, true) }) rfl (fun K hK => ?_) AllReadyH.nil)
  go_simp
  refine (sh_right (some ad4) c4 [aF, aE] _ (Kd.C_below HL10.out hHeld.2.2.2.2.2.2.2.2.2.2.2.2.2.2.2.2.2.2.2.2.2.2.2.2.2.2.2.2.2.2.2.2.2.2.2.2.2.2.2.2) hc4 (ok2 okF okE) (by simp) (HT.out.of (below_next HB10.out hHeld.2.2.2.2.2.2.2.2.2.2.2.2.2.2.2.2.2.2.2.2.2.2.2.2.2.2.2.2.2.2.2.2.2.2.2.2.2.2.2.2))).mono ?_
  rw [aw_right]
  rintro e wz ⟨rfl, hbz⟩
  have hzz := hbz.size
  refine hK.out _ _ ⟨cell_below hbz hHeld.1, cell_below hbz hHeld.2.1, cell_below hbz hHeld.2.2.1, cell_below hbz hHeld.2.2.2.1, cell_below hbz hHeld.2.2.2.2.1, cell_below hbz hHeld.2.2.2.2.2.1, cell_below hbz hHeld.2.2.2.2.2.2.1, cell_below hbz hHeld.2.2.2.2.2.2.2.1, cell_below hbz hHeld.2.2.2.2.2.2.2.2.1, cell_below hbz hHeld.2.2.2.2.2.2.2.2.2.1, cell_below hbz hHeld.2.2.2.2.2.2.2.2.2.2.1, cell_below hbz hHeld.2.2.2.2.2.2.2.2.2.2.2.1, cell_below hbz hHeld.2.2.2.2.2.2.2.2.2.2.2.2.1, cell_below hbz hHeld.2.2.2.2.2.2.2.2.2.2.2.2.2.1, cell_below hbz hHeld.2.2.2.2.2.2.2.2.2.2.2.2.2.2.1, cell_below hbz hHeld.2.2.2.2.2.2.2.2.2.2.2.2.2.2.2.1, cell_below hbz hHeld.2.2.2.2.2.2.2.2.2.2.2.2.2.2.2.2.1, cell_below hbz hHeld.2.2.2.2.2.2.2.2.2.2.2.2.2.2.2.2.2.1, cell_below hbz hHeld.2.2.2.2.2.2.2.2.2.2.2.2.2.2.2.2.2.2.1, cell_below hbz hHeld.2.2.2.2.2.2.2.2.2.2.2.2.2.2.2.2.2.2.2.1, cell_below hbz hHeld.2.2.2.2.2.2.2.2.2.2.2.2.2.2.2.2.2.2.2.2.1, cell_below hbz hHeld.2.2.2.2.2.2.2.2.2.2.2.2.2.2.2.2.2.2.2.2.2.1, cell_below hbz hHeld.2.2.2.2.2.2.2.2.2.2.2.2.2.2.2.2.2.2.2.2.2.2.1, cell_below hbz hHeld.2.2.2.2.2.2.2.2.2.2.2.2.2.2.2.2.2.2.2.2.2.2.2.1, cell_below hbz hHeld.2.2.2.2.2.2.2.2.2.2.2.2.2.2.2.2.2.2.2.2.2.2.2.2.1, cell_below hbz hHeld.2.2.2.2.2.2.2.2.2.2.2.2.2.2.2.2.2.2.2.2.2.2.2.2.2.1, cell_below hbz hHeld.2.2.2.2.2.2.2.2.2.2.2.2.2.2.2.2.2.2.2.2.2.2.2.2.2.2.1, cell_below hbz hHeld.2.2.2.2.2.2.2.2.2.2.2.2.2.2.2.2.2.2.2.2.2.2.2.2.2.2.2.1, cell_below hbz hHeld.2.2.2.2.2.2.2.2.2.2.2.2.2.2.2.2.2.2.2.2.2.2.2.2.2.2.2.2.1, cell_below hbz hHeld.2.2.2.2.2.2.2.2.2.2.2.2.2.2.2.2.2.2.2.2.2.2.2.2.2.2.2.2.2.1, cell_below hbz hHeld.2.2.2.2.2.2.2.2.2.2.2.2.2.2.2.2.2.2.2.2.2.2.2.2.2.2.2.2.2.2.1, cell_below hbz hHeld.2.2.2.2.2.2.2.2.2.2.2.2.2.2.2.2.2.2.2.2.2.2.2.2.2.2.2.2.2.2.2.1, cell_below hbz hHeld.2.2.2.2.2.2.2.2.2.2.2.2.2.2.2.2.2.2.2.2.2.2.2.2.2.2.2.2.2.2.2.2.1, cell_below hbz hHeld.2.2.2.2.2.2.2.2.2.2.2.2.2.2.2.2.2.2.2.2.2.2.2.2.2.2.2.2.2.2.2.2.2.1, cell_below hbz hHeld.2.2.2.2.2.2.2.2.2.2.2.2.2.2.2.2.2.2.2.2.2.2.2.2.2.2.2.2.2.2.2.2.2.2.1, cell_below hbz hHeld.2.2.2.2.2.2.2.2.2.2.2.2.2.2.2.2.2.2.2.2.2.2.2.2.2.2.2.2.2.2.2.2.2.2.2.1, cell_below hbz hHeld.2.2.2.2.2.2.2.2.2.2.2.2.2.2.2.2.2.2.2.2.2.2.2.2.2.2.2.2.2.2.2.2.2.2.2.2.1, cell_below hbz hHeld.2.2.2.2.2.2.2.2.2.2.2.2.2.2.2.2.2.2.2.2.2.2.2.2.2.2.2.2.2.2.2.2.2.2.2.2.2.1, cell_below hbz hHeld.2.2.2.2.2.2.2.2.2.2.2.2.2.2.2.2.2.2.2.2.2.2.2.2.2.2.2.2.2.2.2.2.2.2.2.2.2.2.1, cell_below hbz hHeld.2.2.2.2.2.2.2.2.2.2.2.2.2.2.2.2.2.2.2.2.2.2.2.2.2.2.2.2.2.2.2.2.2.2.2.2.2.2.2.1, below_next hHeld.2.2.2.2.2.2.2.2.2.2.2.2.2.2.2.2.2.2.2.2.2.2.2.2.2.2.2.2.2.2.2.2.2.2.2.2.2.2.2.2 hbz⟩ (fun hHeld' => ?_)
  clear hHeld hbz
  have hHeld := hHeld'
  clear hHeld'
  clear hK K
  (try simp only [Act.put, List.setIfInBounds_toArray, List.set_cons_zero, List.set_cons_succ])
  refine wpAnyH_take (i := 44) (oi := { dst := some 97, op := Op.pick (Operand.tmp 94) (Operand.tmp 96) (Operand.const (Value.bool false)), type := 4, pos := "law.go:22", after := #[{ on := 41, ground := Ground.data }, { on := 43, ground := Ground.data }], guard := none }) (v := ?vr1_44) rfl (by kernel_rfl) (by kernel_rfl) (by kernel_rfl) (fun _ _ _ h => h) (Or.inl ⟨by rfl, ?hyr1_44⟩) (by assumption) ?restr1_44
  case hyr1_44 => (intro wS hS; (try dsimp only at hS); go_simp; (try with_reducible rfl))
  (try simp only [Act.put, List.setIfInBounds_toArray, List.set_cons_zero, List.set_cons_succ])
  refine wpAnyH_take (i := 45) (oi := { dst := some 98, op := Op.move (Operand.tmp 97), type := 4, pos := "law.go:22", after := #[{ on := 44, ground := Ground.data }, { on := 43, ground := Ground.chain }], guard := none }) (v := ?vr1_45) rfl (by kernel_rfl) (by kernel_rfl) (by kernel_rfl) (fun _ _ _ h => h) (Or.inl ⟨by rfl, ?hyr1_45⟩) (by assumption) ?restr1_45
  case hyr1_45 => (intro wS hS; (try dsimp only at hS); go_simp; (try with_reducible rfl))
  (try simp only [Act.put, List.setIfInBounds_toArray, List.set_cons_zero, List.set_cons_succ])
  refine wpAnyH_take (i := 46) (oi := { dst := some 99, op := Op.load 28 (Operand.tmp 1), type := 28, pos := "law.go:22", after := #[{ on := 45, ground := Ground.guard }], guard := some (45, true) }) (v := ?vr1_46) rfl (by kernel_rfl) (by kernel_rfl) (by kernel_rfl) (fun _ _ _ h => h) (Or.inl ⟨by rfl, ?hyr1_46⟩) (by assumption) ?restr1_46
  case hyr1_46 => (intro wS hS; (try dsimp only at hS); go_simp; (try with_reducible rfl))
  (try simp only [Act.put, List.setIfInBounds_toArray, List.set_cons_zero, List.set_cons_succ])
  refine wpAnyH_ready (rs := [47]) (by kernel_rfl) (by simp) (AllReadyH.cons (o := { dst := some 100, op := Op.call { callee := Callee.value (Operand.func 21), args := #[Operand.tmp 99], argTypes := #[28] }, type := 4, pos := "law.go:22", after := #[{ on := 46, ground := Ground.data }, { on := 45, ground := Ground.chain }, { on := 45, ground := Ground.guard }], guard := some (45, true) }) rfl (fun K hK => ?_) AllReadyH.nil)
  go_simp
  refine (sh_entry aG okG true aw_entry _ (HT.out.of (below_next HB10.out hHeld.2.2.2.2.2.2.2.2.2.2.2.2.2.2.2.2.2.2.2.2.2.2.2.2.2.2.2.2.2.2.2.2.2.2.2.2.2.2.2.2))).mono ?_
  rintro e wz ⟨rfl, hbz⟩
  have hzz := hbz.size
  refine hK.out _ _ ⟨cell_below hbz hHeld.1, cell_below hbz hHeld.2.1, cell_below hbz hHeld.2.2.1, cell_below hbz hHeld.2.2.2.1, cell_below hbz hHeld.2.2.2.2.1, cell_below hbz hHeld.2.2.2.2.2.1, cell_below hbz hHeld.2.2.2.2.2.2.1, cell_below hbz hHeld.2.2.2.2.2.2.2.1, cell_below hbz hHeld.2.2.2.2.2.2.2.2.1, cell_below hbz hHeld.2.2.2.2.2.2.2.2.2.1, cell_below hbz hHeld.2.2.2.2.2.2.2.2.2.2.1, cell_below hbz hHeld.2.2.2.2.2.2.2.2.2.2.2.1, cell_below hbz hHeld.2.2.2.2.2.2.2.2.2.2.2.2.1, cell_below hbz hHeld.2.2.2.2.2.2.2.2.2.2.2.2.2.1, cell_below hbz hHeld.2.2.2.2.2.2.2.2.2.2.2.2.2.2.1, cell_below hbz hHeld.2.2.2.2.2.2.2.2.2.2.2.2.2.2.2.1, cell_below hbz hHeld.2.2.2.2.2.2.2.2.2.2.2.2.2.2.2.2.1, cell_below hbz hHeld.2.2.2.2.2.2.2.2.2.2.2.2.2.2.2.2.2.1, cell_below hbz hHeld.2.2.2.2.2.2.2.2.2.2.2.2.2.2.2.2.2.2.1, cell_below hbz hHeld.2.2.2.2.2.2.2.2.2.2.2.2.2.2.2.2.2.2.2.1, cell_below hbz hHeld.2.2.2.2.2.2.2.2.2.2.2.2.2.2.2.2.2.2.2.2.1, cell_below hbz hHeld.2.2.2.2.2.2.2.2.2.2.2.2.2.2.2.2.2.2.2.2.2.1, cell_below hbz hHeld.2.2.2.2.2.2.2.2.2.2.2.2.2.2.2.2.2.2.2.2.2.2.1, cell_below hbz hHeld.2.2.2.2.2.2.2.2.2.2.2.2.2.2.2.2.2.2.2.2.2.2.2.1, cell_below hbz hHeld.2.2.2.2.2.2.2.2.2.2.2.2.2.2.2.2.2.2.2.2.2.2.2.2.1, cell_below hbz hHeld.2.2.2.2.2.2.2.2.2.2.2.2.2.2.2.2.2.2.2.2.2.2.2.2.2.1, cell_below hbz hHeld.2.2.2.2.2.2.2.2.2.2.2.2.2.2.2.2.2.2.2.2.2.2.2.2.2.2.1, cell_below hbz hHeld.2.2.2.2.2.2.2.2.2.2.2.2.2.2.2.2.2.2.2.2.2.2.2.2.2.2.2.1, cell_below hbz hHeld.2.2.2.2.2.2.2.2.2.2.2.2.2.2.2.2.2.2.2.2.2.2.2.2.2.2.2.2.1, cell_below hbz hHeld.2.2.2.2.2.2.2.2.2.2.2.2.2.2.2.2.2.2.2.2.2.2.2.2.2.2.2.2.2.1, cell_below hbz hHeld.2.2.2.2.2.2.2.2.2.2.2.2.2.2.2.2.2.2.2.2.2.2.2.2.2.2.2.2.2.2.1, cell_below hbz hHeld.2.2.2.2.2.2.2.2.2.2.2.2.2.2.2.2.2.2.2.2.2.2.2.2.2.2.2.2.2.2.2.1, cell_below hbz hHeld.2.2.2.2.2.2.2.2.2.2.2.2.2.2.2.2.2.2.2.2.2.2.2.2.2.2.2.2.2.2.2.2.1, cell_below hbz hHeld.2.2.2.2.2.2.2.2.2.2.2.2.2.2.2.2.2.2.2.2.2.2.2.2.2.2.2.2.2.2.2.2.2.1, cell_below hbz hHeld.2.2.2.2.2.2.2.2.2.2.2.2.2.2.2.2.2.2.2.2.2.2.2.2.2.2.2.2.2.2.2.2.2.2.1, cell_below hbz hHeld.2.2.2.2.2.2.2.2.2.2.2.2.2.2.2.2.2.2.2.2.2.2.2.2.2.2.2.2.2.2.2.2.2.2.2.1, cell_below hbz hHeld.2.2.2.2.2.2.2.2.2.2.2.2.2.2.2.2.2.2.2.2.2.2.2.2.2.2.2.2.2.2.2.2.2.2.2.2.1, cell_below hbz hHeld.2.2.2.2.2.2.2.2.2.2.2.2.2.2.2.2.2.2.2.2.2.2.2.2.2.2.2.2.2.2.2.2.2.2.2.2.2.1, cell_below hbz hHeld.2.2.2.2.2.2.2.2.2.2.2.2.2.2.2.2.2.2.2.2.2.2.2.2.2.2.2.2.2.2.2.2.2.2.2.2.2.2.1, cell_below hbz hHeld.2.2.2.2.2.2.2.2.2.2.2.2.2.2.2.2.2.2.2.2.2.2.2.2.2.2.2.2.2.2.2.2.2.2.2.2.2.2.2.1, below_next hHeld.2.2.2.2.2.2.2.2.2.2.2.2.2.2.2.2.2.2.2.2.2.2.2.2.2.2.2.2.2.2.2.2.2.2.2.2.2.2.2.2 hbz⟩ (fun hHeld' => ?_)
  clear hHeld hbz
  have hHeld := hHeld'
  clear hHeld'
  clear hK K
  (try simp only [Act.put, List.setIfInBounds_toArray, List.set_cons_zero, List.set_cons_succ])
  refine wpAnyH_take (i := 48) (oi := { dst := some 101, op := Op.pick (Operand.tmp 98) (Operand.tmp 100) (Operand.const (Value.bool false)), type := 4, pos := "law.go:22", after := #[{ on := 45, ground := Ground.data }, { on := 47, ground := Ground.data }], guard := none }) (v := ?vr1_48) rfl (by kernel_rfl) (by kernel_rfl) (by kernel_rfl) (fun _ _ _ h => h) (Or.inl ⟨by rfl, ?hyr1_48⟩) (by assumption) ?restr1_48
  case hyr1_48 => (intro wS hS; (try dsimp only at hS); go_simp; (try with_reducible rfl))
  (try simp only [Act.put, List.setIfInBounds_toArray, List.set_cons_zero, List.set_cons_succ])
  refine wpAnyH_take (i := 49) (oi := { dst := some 0, op := Op.assign (Operand.tmp 101), type := 4, pos := "law.go:22", after := #[{ on := 48, ground := Ground.data }, { on := 47, ground := Ground.chain }, { on := 0, ground := Ground.phase }, { on := 1, ground := Ground.phase }, { on := 2, ground := Ground.phase }, { on := 3, ground := Ground.phase }, { on := 4, ground := Ground.phase }, { on := 5, ground := Ground.phase }, { on := 6, ground := Ground.phase }, { on := 7, ground := Ground.phase }, { on := 8, ground := Ground.phase }, { on := 9, ground := Ground.phase }, { on := 10, ground := Ground.phase }, { on := 11, ground := Ground.phase }, { on := 12, ground := Ground.phase }, { on := 13, ground := Ground.phase }, { on := 14, ground := Ground.phase }, { on := 15, ground := Ground.phase }, { on := 16, ground := Ground.phase }, { on := 17, ground := Ground.phase }, { on := 18, ground := Ground.phase }, { on := 19, ground := Ground.phase }, { on := 20, ground := Ground.phase }, { on := 21, ground := Ground.phase }, { on := 22, ground := Ground.phase }, { on := 23, ground := Ground.phase }, { on := 24, ground := Ground.phase }, { on := 25, ground := Ground.phase }, { on := 26, ground := Ground.phase }, { on := 27, ground := Ground.phase }, { on := 28, ground := Ground.phase }, { on := 29, ground := Ground.phase }, { on := 30, ground := Ground.phase }, { on := 31, ground := Ground.phase }, { on := 32, ground := Ground.phase }, { on := 33, ground := Ground.phase }, { on := 34, ground := Ground.phase }, { on := 35, ground := Ground.phase }, { on := 36, ground := Ground.phase }, { on := 37, ground := Ground.phase }, { on := 38, ground := Ground.phase }, { on := 39, ground := Ground.phase }, { on := 40, ground := Ground.phase }, { on := 41, ground := Ground.phase }, { on := 42, ground := Ground.phase }, { on := 43, ground := Ground.phase }, { on := 44, ground := Ground.phase }, { on := 45, ground := Ground.phase }, { on := 46, ground := Ground.phase }, { on := 47, ground := Ground.phase }, { on := 48, ground := Ground.phase }], guard := none }) (v := ?vr1_49) rfl (by kernel_rfl) (by kernel_rfl) (by kernel_rfl) (fun _ _ _ h => h) (Or.inl ⟨by rfl, ?hyr1_49⟩) (by assumption) ?restr1_49
  case hyr1_49 => (intro wS hS; (try dsimp only at hS); go_simp; (try with_reducible rfl))
  (try simp only [Act.put, List.setIfInBounds_toArray, List.set_cons_zero, List.set_cons_succ])
  refine wpAnyH_done (by kernel_rfl) ?_ _
  go_wp2
  go_ret
  exact ⟨rfl, below_next HB10.out hHeld.2.2.2.2.2.2.2.2.2.2.2.2.2.2.2.2.2.2.2.2.2.2.2.2.2.2.2.2.2.2.2.2.2.2.2.2.2.2.2.2⟩
end Go.Proofs.YtkgkemihhfipaaaDoor.HK

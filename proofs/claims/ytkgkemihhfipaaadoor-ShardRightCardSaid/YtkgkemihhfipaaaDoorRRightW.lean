/- Packed by pack.py (this session's own program): texts of the kit's printer and of my own, what is not used struck. -/
import Derived.Test.YtkgkemihhfipaaaDoorRCmpW
import Derived.Test.YtkgkemihhfipaaaDoorRStubD
import Derived.Test.YtkgkemihhfipaaaDoorRLabel
set_option linter.unusedVariables false
set_option linter.unusedSimpArgs false
set_option linter.unusedSectionVars false
namespace Go.Proofs.YtkgkemihhfipaaaDoor.HK
open Go.RowKit Go.Proofs.YtkgkemihhfipaaaDoorW.PrintWords Go.Proofs.YtkgkemihhfipaaaDoorW.PrintLast Go.Proofs.YtkgkemihhfipaaaDoorW.PrintMore
def shardB (l : List EE) : Bool := l.all entryB && (incB ordK κE l && decide (l.length ≤ 128))
def goodTo (l : List EE) (k : Nat) : Prop := ∀ (j : Nat) (h : j < l.length), j < k → entryB l[j] = true ∧ ∀ (h0 : 0 < j), ordK (l[j - 1]'(by omega)).f0 l[j].f0 < 0
theorem inc_at : ∀ (l : List EE), incB ordK κE l = true ↔ ∀ (j : Nat) (h : j + 1 < l.length), ordK l[j].f0 l[j + 1].f0 < 0
  | [] => by simp [incB]
  | [x] => by simp [incB]
  | x :: y :: r => by
    rw [incB, Bool.and_eq_true, decide_eq_true_eq, inc_at (y :: r)]
    constructor
    · rintro ⟨h1, h2⟩ j hj
      cases j with
      | zero => exact h1
      | succ j => exact h2 j (by simpa using hj)
    · intro h
      exact ⟨h 0 (by simp), fun j hj => h (j + 1) (by simpa using hj)⟩
theorem good_all {l : List EE} (h : goodTo l l.length) : shardB l = decide (l.length ≤ 128) := by
  have h1 : l.all entryB = true := by
    rw [List.all_eq_true]
    intro x hx
    obtain ⟨j, hj, rfl⟩ := List.getElem_of_mem hx
    exact (h j hj hj).1
  have h2 : incB ordK κE l = true := (inc_at l).2 fun j hj => (h (j + 1) hj hj).2 (by omega)
  unfold shardB
  rw [h1, h2]
  rfl
theorem bad_at {l : List EE} {k : Nat} (hk : k < l.length) (h : entryB l[k] = false ∨ ∃ h0 : 0 < k, 0 ≤ ordK (l[k - 1]'(by omega)).f0 l[k].f0) : shardB l = false := by
  unfold shardB
  rcases h with h | ⟨h0, h⟩
  · have : l.all entryB = false := by
      rw [List.all_eq_false]
      exact ⟨l[k], List.getElem_mem _, by rw [h]; simp⟩
    rw [this]
    rfl
  · have : incB ordK κE l = false := by
      rw [Bool.eq_false_iff]
      intro hi
      have := (inc_at l).1 hi (k - 1) (by omega)
      simp only [show k - 1 + 1 = k by omega] at this
      omega
    rw [this]
    simp
theorem good_next {l : List EE} {k : Nat} (h : goodTo l k) (hk : k < l.length) (h1 : entryB l[k] = true) (h2 : ∀ h0 : 0 < k, ordK (l[k - 1]'(by omega)).f0 l[k].f0 < 0) : goodTo l (k + 1) := by
  intro j hj hlt
  rcases Nat.lt_or_ge j k with h3 | h3
  · exact h j hj h3
  · obtain rfl : j = k := by omega
    exact ⟨h1, h2⟩
theorem at_e {w : World} {A : Option Addr} {n : Nat} {l : List EE} (h : Kd.C k28 w A n l) (hl : n = l.length) (k : Nat) (hk : k < l.length) : ∃ ad, A = some ad ∧ w.cell? (ad.add (k * 8)) = some (.int .u32 l[k].f0.f0) ∧ w.cell? ⟨(ad.add (k * 8)).block, (ad.add (k * 8)).off + 1, none⟩ = some (.string l[k].f0.f1) ∧
    w.cell? ⟨(ad.add (k * 8)).block, (ad.add (k * 8)).off + 2, none⟩ = some (.int .i64 l[k].f1) ∧ w.cell? ⟨(ad.add (k * 8)).block, (ad.add (k * 8)).off + 3, none⟩ = some (.string l[k].f2) ∧ w.cell? ⟨(ad.add (k * 8)).block, (ad.add (k * 8)).off + 4, none⟩ = some (.int .u64 l[k].f3) ∧
    w.cell? ⟨(ad.add (k * 8)).block, (ad.add (k * 8)).off + 5, none⟩ = some (.string l[k].f4) ∧ w.cell? ⟨(ad.add (k * 8)).block, (ad.add (k * 8)).off + 6, none⟩ = some (.int .i64 l[k].f5) ∧ w.cell? ⟨(ad.add (k * 8)).block, (ad.add (k * 8)).off + 7, none⟩ = some (.int .i64 l[k].f6) := by
  obtain ⟨ad, e, c0, c1, c2, c3, c4, c5, c6, c7⟩ := at_T28 h (k : Int) (by omega) (by omega)
  rw [rd_at l k hk] at c0 c1 c2 c3 c4 c5 c6 c7
  exact ⟨ad, e, c0, c1, c2, c3, c4, c5, c6, c7⟩
variable [digit_Fine.Has] [field_Right.Has] [deal_typeOf.Has] [paydeskref07_Order.Has]
theorem ref_entry (x : EE) (h : Ok x) (b : Bool) (hb : entryB x = b) (w : World) : Calls Tryd.prog 22 #[.agg #[.int .u32 x.f0.f0, .string x.f0.f1, .int .i64 x.f1, .string x.f2, .int .u64 x.f3, .string x.f4, .int .i64 x.f5, .int .i64 x.f6]] w fun e w' => e = .returned (.bool b) ∧ Below w.heap.size w w' := by
  subst hb
  exact paydeskref10_RightEntry.calls 2010 _ _ _ _ _ _ _ _ _ w (entry10_ev x h (Nat.le_refl _))
theorem sh_entry (x : EE) (h : Ok x) (b : Bool) (hb : entryB x = b) (w : World) (hty : TypesAt w) : Calls Tryd.prog 21 #[.agg #[.int .u32 x.f0.f0, .string x.f0.f1, .int .i64 x.f1, .string x.f2, .int .u64 x.f3, .string x.f4, .int .i64 x.f5, .int .i64 x.f6]] w fun e w' => e = .returned (.bool b) ∧ Below w.heap.size w w' := by
  subst hb
  exact shard_RightEntry.calls 2000 _ _ _ _ _ _ _ _ _ w (entry_ev x h (Nat.le_refl _)) hty
theorem ref_order (a b : EK) (o : Int) (ho : ordK a b = o) (w : World) : Calls Tryd.prog 52 #[.agg #[.int .u32 a.f0, .string a.f1], .agg #[.int .u32 b.f0, .string b.f1]] w fun e w' => e = .returned (.int .i64 o) ∧ Below w.heap.size w w' := by
  subst ho
  exact paydeskref07_Order.calls _ _ _ _ _ w (order_ev a b)
theorem sh_order (a b : EK) (o : Int) (ho : ordK a b = o) (w : World) : Calls Tryd.prog 51 #[.agg #[.int .u32 a.f0, .string a.f1], .agg #[.int .u32 b.f0, .string b.f1]] w fun e w' => e = .returned (.int .i64 o) ∧ Below w.heap.size w w' := by
  subst ho
  exact key_order a b w
set_option maxHeartbeats 8000000 in
set_option maxRecDepth 100000 in
theorem ref_right (A : Option Addr) (c : Nat) (l : List EE) (w : World) (hr : Kd.C k28 w A l.length l) (hc : l.length ≤ c) (hok : ∀ x ∈ l, Ok x) (hn : l.length ≤ 1000) :
    Calls Tryd.prog 24 #[.slice A l.length c] w fun e w' => e = .returned (.bool (shardB l)) ∧ Below w.heap.size w w' := by
  have HR := Sealed.mk hr
  have HK := Sealed.mk hok
  clear hr hok
  go_enter Tryd.func24, Tryd.ntmps24
  go_wp2
  go_loopw [3] (fun i wr => ∃ k : Nat, k ≤ l.length ∧ i = .int .i64 (k : Nat) ∧ Sealed (goodTo l k) ∧ Below w.heap.size w wr) (fun i _ => l.length - (intOf i).toNat)
  case atStart => exact ⟨0, Nat.zero_le _, rfl, ⟨fun j _ h => absurd h (by omega)⟩, Below.refl _ _⟩
  case round =>
    obtain ⟨k, hk, rfl, hg, hb⟩ := hrel
    by_cases hlt : k < l.length
    · obtain ⟨ad, rfl, c0, c1, c2, c3, c4, c5, c6, c7⟩ := at_e HR.out rfl k hlt
      replace c0 := cell_below hb c0
      replace c1 := cell_below hb c1
      replace c2 := cell_below hb c2
      replace c3 := cell_below hb c3
      replace c4 := cell_below hb c4
      replace c5 := cell_below hb c5
      replace c6 := cell_below hb c6
      replace c7 := cell_below hb c7
      have hx := HK.out l[k] (List.getElem_mem _)
      obtain ⟨x, hxe⟩ : ∃ x, l[k] = x := ⟨_, rfl⟩
      rw [hxe] at c0 c1 c2 c3 c4 c5 c6 c7 hx
      have HX := Sealed.mk hxe
      have HO := Sealed.mk hx
      clear hxe hx
      obtain ⟨b, hbx⟩ : ∃ b, entryB x = b := ⟨_, rfl⟩
      have HBX := Sealed.mk hbx
      clear hbx
      cases b with
      | false =>
        have hbad := Sealed.mk (bad_at hlt (.inl (by rw [HX.out]; exact HBX.out)))
        go_wp2_with fail
        refine wp_region_held_drew (S := fun w' => w'.cell? (ad.add (k * 8)) = some (.int .u32 x.f0.f0) ∧ w'.cell? ⟨(ad.add (k * 8)).block, (ad.add (k * 8)).off + 1, none⟩ = some (.string x.f0.f1) ∧ w'.cell? ⟨(ad.add (k * 8)).block, (ad.add (k * 8)).off + 2, none⟩ = some (.int .i64 x.f1) ∧ w'.cell? ⟨(ad.add (k * 8)).block, (ad.add (k * 8)).off + 3, none⟩ = some (.string x.f2) ∧ w'.cell? ⟨(ad.add (k * 8)).block, (ad.add (k * 8)).off + 4, none⟩ = some (.int .u64 x.f3) ∧ w'.cell? ⟨(ad.add (k * 8)).block, (ad.add (k * 8)).off + 5, none⟩ = some (.string x.f4) ∧ w'.cell? ⟨(ad.add (k * 8)).block, (ad.add (k * 8)).off + 6, none⟩ = some (.int .i64 x.f5) ∧ w'.cell? ⟨(ad.add (k * 8)).block, (ad.add (k * 8)).off + 7, none⟩ = some (.int .i64 x.f6) ∧ Below w.heap.size w w') (by kernel_rfl) (⟨c0, c1, c2, c3, c4, c5, c6, c7, hb.drew⟩) (fun hHeld => ?_)
        refine wpAnyH_take (i := 0) (oi := { dst := some 10, op := Op.move (Operand.tmp 0), type := 22, pos := "ref.go:28", after := #[], guard := none }) (v := ?vr1_0) rfl (by kernel_rfl) (by kernel_rfl) (by kernel_rfl) (fun _ _ _ h => h) (Or.inl ⟨by rfl, ?hyr1_0⟩) (by assumption) ?restr1_0
        case hyr1_0 => (intro wS hS; (try dsimp only at hS); go_simp; (try with_reducible rfl))
        (try simp only [Act.put, List.setIfInBounds_toArray, List.set_cons_zero, List.set_cons_succ])
        refine wpAnyH_take (i := 1) (oi := { dst := some 11, op := Op.move (Operand.tmp 3), type := 3, pos := "ref.go:28", after := #[], guard := none }) (v := ?vr1_1) rfl (by kernel_rfl) (by kernel_rfl) (by kernel_rfl) (fun _ _ _ h => h) (Or.inl ⟨by rfl, ?hyr1_1⟩) (by assumption) ?restr1_1
        case hyr1_1 => (intro wS hS; (try dsimp only at hS); go_simp; (try with_reducible rfl))
        (try simp only [Act.put, List.setIfInBounds_toArray, List.set_cons_zero, List.set_cons_succ])
        refine wpAnyH_take (i := 2) (oi := { dst := some 12, op := Op.indexAddr 22 (Operand.tmp 10) (Operand.tmp 11), type := 0, pos := "ref.go:28", after := #[{ on := 0, ground := Ground.data }, { on := 1, ground := Ground.data }], guard := none }) (v := ?vr1_2) rfl (by kernel_rfl) (by kernel_rfl) (by kernel_rfl) (fun _ _ _ h => h) (Or.inl ⟨by rfl, ?hyr1_2⟩) (by assumption) ?restr1_2
        case hyr1_2 => (intro wS hS; (try dsimp only at hS); go_simp; (try with_reducible rfl))
        (try simp only [Act.put, List.setIfInBounds_toArray, List.set_cons_zero, List.set_cons_succ])
        refine wpAnyH_take (i := 3) (oi := { dst := some 13, op := Op.load 28 (Operand.tmp 12), type := 28, pos := "ref.go:28", after := #[{ on := 2, ground := Ground.data }], guard := none }) (v := ?vr1_3) rfl (by kernel_rfl) (by kernel_rfl) (by kernel_rfl) (fun _ _ _ h => h) (Or.inl ⟨by rfl, ?hyr1_3⟩) (by assumption) ?restr1_3
        case hyr1_3 => (intro wS hS; (try dsimp only at hS); go_simp; (try with_reducible rfl))
        (try simp only [Act.put, List.setIfInBounds_toArray, List.set_cons_zero, List.set_cons_succ])
        refine wpAnyH_ready (rs := [4]) (by kernel_rfl) (by simp) (AllReadyH.cons (o := { dst := some 14, op := Op.call { callee := Callee.value (Operand.func 22), args := #[Operand.tmp 13], argTypes := #[28] }, type := 4, pos := "ref.go:28", after := #[{ on := 3, ground := Ground.data }], guard := none }) rfl (fun K hK => ?_) AllReadyH.nil)
        go_simp
        refine (ref_entry x HO.out false HBX.out _).mono ?_
        rintro e wz ⟨rfl, hbz⟩
        refine hK.out _ _ ⟨cell_below hbz hHeld.1, cell_below hbz hHeld.2.1, cell_below hbz hHeld.2.2.1, cell_below hbz hHeld.2.2.2.1, cell_below hbz hHeld.2.2.2.2.1, cell_below hbz hHeld.2.2.2.2.2.1, cell_below hbz hHeld.2.2.2.2.2.2.1, cell_below hbz hHeld.2.2.2.2.2.2.2.1, below_next hHeld.2.2.2.2.2.2.2.2 hbz⟩ (fun hHeld' => ?_)
        clear hHeld hbz
        have hHeld := hHeld'
        clear hHeld'
        clear hK K
        (try simp only [Act.put, List.setIfInBounds_toArray, List.set_cons_zero, List.set_cons_succ])
        refine wpAnyH_take (i := 5) (oi := { dst := some 15, op := Op.unOp UnOp.not 4 (Operand.tmp 14), type := 4, pos := "ref.go:28", after := #[{ on := 4, ground := Ground.data }], guard := none }) (v := ?vr1_5) rfl (by kernel_rfl) (by kernel_rfl) (by kernel_rfl) (fun _ _ _ h => h) (Or.inl ⟨by rfl, ?hyr1_5⟩) (by assumption) ?restr1_5
        case hyr1_5 => (intro wS hS; (try dsimp only at hS); go_simp; (try with_reducible rfl))
        (try simp only [Act.put, List.setIfInBounds_toArray, List.set_cons_zero, List.set_cons_succ])
        refine wpAnyH_take (i := 6) (oi := { dst := some 16, op := Op.move (Operand.tmp 15), type := 4, pos := "ref.go:28", after := #[{ on := 5, ground := Ground.data }, { on := 4, ground := Ground.chain }], guard := none }) (v := ?vr1_6) rfl (by kernel_rfl) (by kernel_rfl) (by kernel_rfl) (fun _ _ _ h => h) (Or.inl ⟨by rfl, ?hyr1_6⟩) (by assumption) ?restr1_6
        case hyr1_6 => (intro wS hS; (try dsimp only at hS); go_simp; (try with_reducible rfl))
        (try simp only [Act.put, List.setIfInBounds_toArray, List.set_cons_zero, List.set_cons_succ])
        refine wpAnyH_take (i := 7) (oi := { dst := some 17, op := Op.move (Operand.tmp 3), type := 3, pos := "ref.go:28", after := #[{ on := 6, ground := Ground.guard }], guard := some (6, false) }) (v := undef) rfl (by kernel_rfl) (by kernel_rfl) (by kernel_rfl) (fun _ _ _ h => h) (Or.inr ⟨by rfl, rfl⟩) (by assumption) ?_
        (try simp only [Act.put, List.setIfInBounds_toArray, List.set_cons_zero, List.set_cons_succ])
        refine wpAnyH_take (i := 8) (oi := { dst := some 18, op := Op.binOp BinOp.gtr 3 (Operand.tmp 17) (Operand.const (Value.int IntKind.i64 0)) 3, type := 4, pos := "ref.go:28", after := #[{ on := 7, ground := Ground.data }, { on := 6, ground := Ground.guard }], guard := some (6, false) }) (v := undef) rfl (by kernel_rfl) (by kernel_rfl) (by kernel_rfl) (fun _ _ _ h => h) (Or.inr ⟨by rfl, rfl⟩) (by assumption) ?_
        (try simp only [Act.put, List.setIfInBounds_toArray, List.set_cons_zero, List.set_cons_succ])
        refine wpAnyH_take (i := 9) (oi := { dst := some 19, op := Op.move (Operand.tmp 18), type := 4, pos := "ref.go:28", after := #[{ on := 8, ground := Ground.data }, { on := 6, ground := Ground.chain }, { on := 6, ground := Ground.guard }], guard := some (6, false) }) (v := undef) rfl (by kernel_rfl) (by kernel_rfl) (by kernel_rfl) (fun _ _ _ h => h) (Or.inr ⟨by rfl, rfl⟩) (by assumption) ?_
        (try simp only [Act.put, List.setIfInBounds_toArray, List.set_cons_zero, List.set_cons_succ])
        refine wpAnyH_take (i := 10) (oi := { dst := some 20, op := Op.move (Operand.tmp 0), type := 22, pos := "ref.go:28", after := #[{ on := 9, ground := Ground.guard }], guard := some (9, true) }) (v := undef) rfl (by kernel_rfl) (by kernel_rfl) (by kernel_rfl) (fun _ _ _ h => h) (Or.inr ⟨by rfl, rfl⟩) (by assumption) ?_
        (try simp only [Act.put, List.setIfInBounds_toArray, List.set_cons_zero, List.set_cons_succ])
        refine wpAnyH_take (i := 11) (oi := { dst := some 21, op := Op.move (Operand.tmp 3), type := 3, pos := "ref.go:28", after := #[{ on := 9, ground := Ground.guard }], guard := some (9, true) }) (v := undef) rfl (by kernel_rfl) (by kernel_rfl) (by kernel_rfl) (fun _ _ _ h => h) (Or.inr ⟨by rfl, rfl⟩) (by assumption) ?_
        (try simp only [Act.put, List.setIfInBounds_toArray, List.set_cons_zero, List.set_cons_succ])
        refine wpAnyH_take (i := 12) (oi := { dst := some 22, op := Op.binOp BinOp.sub 3 (Operand.tmp 21) (Operand.const (Value.int IntKind.i64 1)) 3, type := 3, pos := "ref.go:28", after := #[{ on := 11, ground := Ground.data }, { on := 9, ground := Ground.guard }], guard := some (9, true) }) (v := undef) rfl (by kernel_rfl) (by kernel_rfl) (by kernel_rfl) (fun _ _ _ h => h) (Or.inr ⟨by rfl, rfl⟩) (by assumption) ?_
        (try simp only [Act.put, List.setIfInBounds_toArray, List.set_cons_zero, List.set_cons_succ])
        refine wpAnyH_take (i := 13) (oi := { dst := some 23, op := Op.indexAddr 22 (Operand.tmp 20) (Operand.tmp 22), type := 0, pos := "ref.go:28", after := #[{ on := 10, ground := Ground.data }, { on := 12, ground := Ground.data }, { on := 9, ground := Ground.guard }], guard := some (9, true) }) (v := undef) rfl (by kernel_rfl) (by kernel_rfl) (by kernel_rfl) (fun _ _ _ h => h) (Or.inr ⟨by rfl, rfl⟩) (by assumption) ?_
        (try simp only [Act.put, List.setIfInBounds_toArray, List.set_cons_zero, List.set_cons_succ])
        refine wpAnyH_take (i := 14) (oi := { dst := some 24, op := Op.fieldAddr 28 (Operand.tmp 23) 0, type := 0, pos := "ref.go:28", after := #[{ on := 13, ground := Ground.data }, { on := 9, ground := Ground.guard }], guard := some (9, true) }) (v := undef) rfl (by kernel_rfl) (by kernel_rfl) (by kernel_rfl) (fun _ _ _ h => h) (Or.inr ⟨by rfl, rfl⟩) (by assumption) ?_
        (try simp only [Act.put, List.setIfInBounds_toArray, List.set_cons_zero, List.set_cons_succ])
        refine wpAnyH_take (i := 15) (oi := { dst := some 25, op := Op.load 25 (Operand.tmp 24), type := 25, pos := "ref.go:28", after := #[{ on := 14, ground := Ground.data }, { on := 9, ground := Ground.guard }], guard := some (9, true) }) (v := undef) rfl (by kernel_rfl) (by kernel_rfl) (by kernel_rfl) (fun _ _ _ h => h) (Or.inr ⟨by rfl, rfl⟩) (by assumption) ?_
        (try simp only [Act.put, List.setIfInBounds_toArray, List.set_cons_zero, List.set_cons_succ])
        refine wpAnyH_take (i := 16) (oi := { dst := some 26, op := Op.move (Operand.tmp 0), type := 22, pos := "ref.go:28", after := #[{ on := 9, ground := Ground.guard }], guard := some (9, true) }) (v := undef) rfl (by kernel_rfl) (by kernel_rfl) (by kernel_rfl) (fun _ _ _ h => h) (Or.inr ⟨by rfl, rfl⟩) (by assumption) ?_
        (try simp only [Act.put, List.setIfInBounds_toArray, List.set_cons_zero, List.set_cons_succ])
        refine wpAnyH_take (i := 17) (oi := { dst := some 27, op := Op.move (Operand.tmp 3), type := 3, pos := "ref.go:28", after := #[{ on := 9, ground := Ground.guard }], guard := some (9, true) }) (v := undef) rfl (by kernel_rfl) (by kernel_rfl) (by kernel_rfl) (fun _ _ _ h => h) (Or.inr ⟨by rfl, rfl⟩) (by assumption) ?_
        (try simp only [Act.put, List.setIfInBounds_toArray, List.set_cons_zero, List.set_cons_succ])
        refine wpAnyH_take (i := 18) (oi := { dst := some 28, op := Op.indexAddr 22 (Operand.tmp 26) (Operand.tmp 27), type := 0, pos := "ref.go:28", after := #[{ on := 16, ground := Ground.data }, { on := 17, ground := Ground.data }, { on := 9, ground := Ground.guard }], guard := some (9, true) }) (v := undef) rfl (by kernel_rfl) (by kernel_rfl) (by kernel_rfl) (fun _ _ _ h => h) (Or.inr ⟨by rfl, rfl⟩) (by assumption) ?_
        (try simp only [Act.put, List.setIfInBounds_toArray, List.set_cons_zero, List.set_cons_succ])
        refine wpAnyH_take (i := 19) (oi := { dst := some 29, op := Op.fieldAddr 28 (Operand.tmp 28) 0, type := 0, pos := "ref.go:28", after := #[{ on := 18, ground := Ground.data }, { on := 9, ground := Ground.guard }], guard := some (9, true) }) (v := undef) rfl (by kernel_rfl) (by kernel_rfl) (by kernel_rfl) (fun _ _ _ h => h) (Or.inr ⟨by rfl, rfl⟩) (by assumption) ?_
        (try simp only [Act.put, List.setIfInBounds_toArray, List.set_cons_zero, List.set_cons_succ])
        refine wpAnyH_take (i := 20) (oi := { dst := some 30, op := Op.load 25 (Operand.tmp 29), type := 25, pos := "ref.go:28", after := #[{ on := 19, ground := Ground.data }, { on := 9, ground := Ground.guard }], guard := some (9, true) }) (v := undef) rfl (by kernel_rfl) (by kernel_rfl) (by kernel_rfl) (fun _ _ _ h => h) (Or.inr ⟨by rfl, rfl⟩) (by assumption) ?_
        (try simp only [Act.put, List.setIfInBounds_toArray, List.set_cons_zero, List.set_cons_succ])
        refine wpAnyH_take (i := 21) (oi := { dst := some 31, op := Op.call { callee := Callee.value (Operand.func 52), args := #[Operand.tmp 25, Operand.tmp 30], argTypes := #[25, 25] }, type := 3, pos := "ref.go:28", after := #[{ on := 15, ground := Ground.data }, { on := 20, ground := Ground.data }, { on := 9, ground := Ground.chain }, { on := 9, ground := Ground.guard }], guard := some (9, true) }) (v := undef) rfl (by kernel_rfl) (by kernel_rfl) (by kernel_rfl) (fun _ _ _ h => h) (Or.inr ⟨by rfl, rfl⟩) (by assumption) ?_
        (try simp only [Act.put, List.setIfInBounds_toArray, List.set_cons_zero, List.set_cons_succ])
        refine wpAnyH_take (i := 22) (oi := { dst := some 32, op := Op.binOp BinOp.neq 3 (Operand.tmp 31) (Operand.const (Value.int IntKind.i64 (-1))) 3, type := 4, pos := "ref.go:28", after := #[{ on := 21, ground := Ground.data }, { on := 9, ground := Ground.guard }], guard := some (9, true) }) (v := undef) rfl (by kernel_rfl) (by kernel_rfl) (by kernel_rfl) (fun _ _ _ h => h) (Or.inr ⟨by rfl, rfl⟩) (by assumption) ?_
        (try simp only [Act.put, List.setIfInBounds_toArray, List.set_cons_zero, List.set_cons_succ])
        refine wpAnyH_take (i := 23) (oi := { dst := some 33, op := Op.pick (Operand.tmp 19) (Operand.tmp 32) (Operand.const (Value.bool false)), type := 4, pos := "ref.go:28", after := #[{ on := 9, ground := Ground.data }, { on := 22, ground := Ground.data }, { on := 6, ground := Ground.guard }], guard := some (6, false) }) (v := undef) rfl (by kernel_rfl) (by kernel_rfl) (by kernel_rfl) (fun _ _ _ h => h) (Or.inr ⟨by rfl, rfl⟩) (by assumption) ?_
        (try simp only [Act.put, List.setIfInBounds_toArray, List.set_cons_zero, List.set_cons_succ])
        refine wpAnyH_take (i := 24) (oi := { dst := some 34, op := Op.pick (Operand.tmp 16) (Operand.const (Value.bool true)) (Operand.tmp 33), type := 4, pos := "ref.go:28", after := #[{ on := 6, ground := Ground.data }, { on := 23, ground := Ground.data }], guard := none }) (v := ?vr1_24) rfl (by kernel_rfl) (by kernel_rfl) (by kernel_rfl) (fun _ _ _ h => h) (Or.inl ⟨by rfl, ?hyr1_24⟩) (by assumption) ?restr1_24
        case hyr1_24 => (intro wS hS; (try dsimp only at hS); go_simp; (try with_reducible rfl))
        (try simp only [Act.put, List.setIfInBounds_toArray, List.set_cons_zero, List.set_cons_succ])
        refine wpAnyH_done (by kernel_rfl) ?_ _
        go_wp2
        go_ret
        exact ⟨by rw [hbad.out]; rfl, hHeld.2.2.2.2.2.2.2.2⟩
      | true =>
        rcases Nat.eq_zero_or_pos k with h0 | h0
        · have hg' := Sealed.mk (good_next hg.out hlt (by rw [HX.out]; exact HBX.out) (fun h => absurd h (by omega)))
          have hgt : decide (0 < (k : Int)) = false := by simp; omega
          clear h0
          go_wp2_with fail
          refine wp_region_held_drew (S := fun w' => w'.cell? (ad.add (k * 8)) = some (.int .u32 x.f0.f0) ∧ w'.cell? ⟨(ad.add (k * 8)).block, (ad.add (k * 8)).off + 1, none⟩ = some (.string x.f0.f1) ∧ w'.cell? ⟨(ad.add (k * 8)).block, (ad.add (k * 8)).off + 2, none⟩ = some (.int .i64 x.f1) ∧ w'.cell? ⟨(ad.add (k * 8)).block, (ad.add (k * 8)).off + 3, none⟩ = some (.string x.f2) ∧ w'.cell? ⟨(ad.add (k * 8)).block, (ad.add (k * 8)).off + 4, none⟩ = some (.int .u64 x.f3) ∧ w'.cell? ⟨(ad.add (k * 8)).block, (ad.add (k * 8)).off + 5, none⟩ = some (.string x.f4) ∧ w'.cell? ⟨(ad.add (k * 8)).block, (ad.add (k * 8)).off + 6, none⟩ = some (.int .i64 x.f5) ∧ w'.cell? ⟨(ad.add (k * 8)).block, (ad.add (k * 8)).off + 7, none⟩ = some (.int .i64 x.f6) ∧ Below w.heap.size w w') (by kernel_rfl) (⟨c0, c1, c2, c3, c4, c5, c6, c7, hb.drew⟩) (fun hHeld => ?_)
          refine wpAnyH_take (i := 0) (oi := { dst := some 10, op := Op.move (Operand.tmp 0), type := 22, pos := "ref.go:28", after := #[], guard := none }) (v := ?vr2_0) rfl (by kernel_rfl) (by kernel_rfl) (by kernel_rfl) (fun _ _ _ h => h) (Or.inl ⟨by rfl, ?hyr2_0⟩) (by assumption) ?restr2_0
          case hyr2_0 => (intro wS hS; (try dsimp only at hS); go_simp; (try with_reducible rfl))
          (try simp only [Act.put, List.setIfInBounds_toArray, List.set_cons_zero, List.set_cons_succ])
          refine wpAnyH_take (i := 1) (oi := { dst := some 11, op := Op.move (Operand.tmp 3), type := 3, pos := "ref.go:28", after := #[], guard := none }) (v := ?vr2_1) rfl (by kernel_rfl) (by kernel_rfl) (by kernel_rfl) (fun _ _ _ h => h) (Or.inl ⟨by rfl, ?hyr2_1⟩) (by assumption) ?restr2_1
          case hyr2_1 => (intro wS hS; (try dsimp only at hS); go_simp; (try with_reducible rfl))
          (try simp only [Act.put, List.setIfInBounds_toArray, List.set_cons_zero, List.set_cons_succ])
          refine wpAnyH_take (i := 2) (oi := { dst := some 12, op := Op.indexAddr 22 (Operand.tmp 10) (Operand.tmp 11), type := 0, pos := "ref.go:28", after := #[{ on := 0, ground := Ground.data }, { on := 1, ground := Ground.data }], guard := none }) (v := ?vr2_2) rfl (by kernel_rfl) (by kernel_rfl) (by kernel_rfl) (fun _ _ _ h => h) (Or.inl ⟨by rfl, ?hyr2_2⟩) (by assumption) ?restr2_2
          case hyr2_2 => (intro wS hS; (try dsimp only at hS); go_simp; (try with_reducible rfl))
          (try simp only [Act.put, List.setIfInBounds_toArray, List.set_cons_zero, List.set_cons_succ])
          refine wpAnyH_take (i := 3) (oi := { dst := some 13, op := Op.load 28 (Operand.tmp 12), type := 28, pos := "ref.go:28", after := #[{ on := 2, ground := Ground.data }], guard := none }) (v := ?vr2_3) rfl (by kernel_rfl) (by kernel_rfl) (by kernel_rfl) (fun _ _ _ h => h) (Or.inl ⟨by rfl, ?hyr2_3⟩) (by assumption) ?restr2_3
          case hyr2_3 => (intro wS hS; (try dsimp only at hS); go_simp; (try with_reducible rfl))
          (try simp only [Act.put, List.setIfInBounds_toArray, List.set_cons_zero, List.set_cons_succ])
          refine wpAnyH_ready (rs := [4]) (by kernel_rfl) (by simp) (AllReadyH.cons (o := { dst := some 14, op := Op.call { callee := Callee.value (Operand.func 22), args := #[Operand.tmp 13], argTypes := #[28] }, type := 4, pos := "ref.go:28", after := #[{ on := 3, ground := Ground.data }], guard := none }) rfl (fun K hK => ?_) AllReadyH.nil)
          go_simp
          refine (ref_entry x HO.out true HBX.out _).mono ?_
          rintro e wz ⟨rfl, hbz⟩
          refine hK.out _ _ ⟨cell_below hbz hHeld.1, cell_below hbz hHeld.2.1, cell_below hbz hHeld.2.2.1, cell_below hbz hHeld.2.2.2.1, cell_below hbz hHeld.2.2.2.2.1, cell_below hbz hHeld.2.2.2.2.2.1, cell_below hbz hHeld.2.2.2.2.2.2.1, cell_below hbz hHeld.2.2.2.2.2.2.2.1, below_next hHeld.2.2.2.2.2.2.2.2 hbz⟩ (fun hHeld' => ?_)
          clear hHeld hbz
          have hHeld := hHeld'
          clear hHeld'
          clear hK K
          (try simp only [Act.put, List.setIfInBounds_toArray, List.set_cons_zero, List.set_cons_succ])
          refine wpAnyH_take (i := 5) (oi := { dst := some 15, op := Op.unOp UnOp.not 4 (Operand.tmp 14), type := 4, pos := "ref.go:28", after := #[{ on := 4, ground := Ground.data }], guard := none }) (v := ?vr2_5) rfl (by kernel_rfl) (by kernel_rfl) (by kernel_rfl) (fun _ _ _ h => h) (Or.inl ⟨by rfl, ?hyr2_5⟩) (by assumption) ?restr2_5
          case hyr2_5 => (intro wS hS; (try dsimp only at hS); go_simp; (try with_reducible rfl))
          (try simp only [Act.put, List.setIfInBounds_toArray, List.set_cons_zero, List.set_cons_succ])
          refine wpAnyH_take (i := 6) (oi := { dst := some 16, op := Op.move (Operand.tmp 15), type := 4, pos := "ref.go:28", after := #[{ on := 5, ground := Ground.data }, { on := 4, ground := Ground.chain }], guard := none }) (v := ?vr2_6) rfl (by kernel_rfl) (by kernel_rfl) (by kernel_rfl) (fun _ _ _ h => h) (Or.inl ⟨by rfl, ?hyr2_6⟩) (by assumption) ?restr2_6
          case hyr2_6 => (intro wS hS; (try dsimp only at hS); go_simp; (try with_reducible rfl))
          (try simp only [Act.put, List.setIfInBounds_toArray, List.set_cons_zero, List.set_cons_succ])
          refine wpAnyH_take (i := 7) (oi := { dst := some 17, op := Op.move (Operand.tmp 3), type := 3, pos := "ref.go:28", after := #[{ on := 6, ground := Ground.guard }], guard := some (6, false) }) (v := ?vr2_7) rfl (by kernel_rfl) (by kernel_rfl) (by kernel_rfl) (fun _ _ _ h => h) (Or.inl ⟨by rfl, ?hyr2_7⟩) (by assumption) ?restr2_7
          case hyr2_7 => (intro wS hS; (try dsimp only at hS); go_simp; (try with_reducible rfl))
          (try simp only [Act.put, List.setIfInBounds_toArray, List.set_cons_zero, List.set_cons_succ])
          refine wpAnyH_take (i := 8) (oi := { dst := some 18, op := Op.binOp BinOp.gtr 3 (Operand.tmp 17) (Operand.const (Value.int IntKind.i64 0)) 3, type := 4, pos := "ref.go:28", after := #[{ on := 7, ground := Ground.data }, { on := 6, ground := Ground.guard }], guard := some (6, false) }) (v := .bool false) rfl (by kernel_rfl) (by kernel_rfl) (by kernel_rfl) (fun _ _ _ h => h) (Or.inl ⟨by rfl, ?hyr2_8⟩) (by assumption) ?restr2_8
          case hyr2_8 => (intro wS hS; (try dsimp only at hS); rw [← hgt]; go_simp; (try with_reducible rfl))
          (try simp only [Act.put, List.setIfInBounds_toArray, List.set_cons_zero, List.set_cons_succ])
          refine wpAnyH_take (i := 9) (oi := { dst := some 19, op := Op.move (Operand.tmp 18), type := 4, pos := "ref.go:28", after := #[{ on := 8, ground := Ground.data }, { on := 6, ground := Ground.chain }, { on := 6, ground := Ground.guard }], guard := some (6, false) }) (v := ?vr2_9) rfl (by kernel_rfl) (by kernel_rfl) (by kernel_rfl) (fun _ _ _ h => h) (Or.inl ⟨by rfl, ?hyr2_9⟩) (by assumption) ?restr2_9
          case hyr2_9 => (intro wS hS; (try dsimp only at hS); go_simp; (try with_reducible rfl))
          (try simp only [Act.put, List.setIfInBounds_toArray, List.set_cons_zero, List.set_cons_succ])
          refine wpAnyH_take (i := 10) (oi := { dst := some 20, op := Op.move (Operand.tmp 0), type := 22, pos := "ref.go:28", after := #[{ on := 9, ground := Ground.guard }], guard := some (9, true) }) (v := undef) rfl (by kernel_rfl) (by kernel_rfl) (by kernel_rfl) (fun _ _ _ h => h) (Or.inr ⟨by rfl, rfl⟩) (by assumption) ?_
          (try simp only [Act.put, List.setIfInBounds_toArray, List.set_cons_zero, List.set_cons_succ])
          refine wpAnyH_take (i := 11) (oi := { dst := some 21, op := Op.move (Operand.tmp 3), type := 3, pos := "ref.go:28", after := #[{ on := 9, ground := Ground.guard }], guard := some (9, true) }) (v := undef) rfl (by kernel_rfl) (by kernel_rfl) (by kernel_rfl) (fun _ _ _ h => h) (Or.inr ⟨by rfl, rfl⟩) (by assumption) ?_
          (try simp only [Act.put, List.setIfInBounds_toArray, List.set_cons_zero, List.set_cons_succ])
          refine wpAnyH_take (i := 12) (oi := { dst := some 22, op := Op.binOp BinOp.sub 3 (Operand.tmp 21) (Operand.const (Value.int IntKind.i64 1)) 3, type := 3, pos := "ref.go:28", after := #[{ on := 11, ground := Ground.data }, { on := 9, ground := Ground.guard }], guard := some (9, true) }) (v := undef) rfl (by kernel_rfl) (by kernel_rfl) (by kernel_rfl) (fun _ _ _ h => h) (Or.inr ⟨by rfl, rfl⟩) (by assumption) ?_
          (try simp only [Act.put, List.setIfInBounds_toArray, List.set_cons_zero, List.set_cons_succ])
          refine wpAnyH_take (i := 13) (oi := { dst := some 23, op := Op.indexAddr 22 (Operand.tmp 20) (Operand.tmp 22), type := 0, pos := "ref.go:28", after := #[{ on := 10, ground := Ground.data }, { on := 12, ground := Ground.data }, { on := 9, ground := Ground.guard }], guard := some (9, true) }) (v := undef) rfl (by kernel_rfl) (by kernel_rfl) (by kernel_rfl) (fun _ _ _ h => h) (Or.inr ⟨by rfl, rfl⟩) (by assumption) ?_
          (try simp only [Act.put, List.setIfInBounds_toArray, List.set_cons_zero, List.set_cons_succ])
          refine wpAnyH_take (i := 14) (oi := { dst := some 24, op := Op.fieldAddr 28 (Operand.tmp 23) 0, type := 0, pos := "ref.go:28", after := #[{ on := 13, ground := Ground.data }, { on := 9, ground := Ground.guard }], guard := some (9, true) }) (v := undef) rfl (by kernel_rfl) (by kernel_rfl) (by kernel_rfl) (fun _ _ _ h => h) (Or.inr ⟨by rfl, rfl⟩) (by assumption) ?_
          (try simp only [Act.put, List.setIfInBounds_toArray, List.set_cons_zero, List.set_cons_succ])
          refine wpAnyH_take (i := 15) (oi := { dst := some 25, op := Op.load 25 (Operand.tmp 24), type := 25, pos := "ref.go:28", after := #[{ on := 14, ground := Ground.data }, { on := 9, ground := Ground.guard }], guard := some (9, true) }) (v := undef) rfl (by kernel_rfl) (by kernel_rfl) (by kernel_rfl) (fun _ _ _ h => h) (Or.inr ⟨by rfl, rfl⟩) (by assumption) ?_
          (try simp only [Act.put, List.setIfInBounds_toArray, List.set_cons_zero, List.set_cons_succ])
          refine wpAnyH_take (i := 16) (oi := { dst := some 26, op := Op.move (Operand.tmp 0), type := 22, pos := "ref.go:28", after := #[{ on := 9, ground := Ground.guard }], guard := some (9, true) }) (v := undef) rfl (by kernel_rfl) (by kernel_rfl) (by kernel_rfl) (fun _ _ _ h => h) (Or.inr ⟨by rfl, rfl⟩) (by assumption) ?_
          (try simp only [Act.put, List.setIfInBounds_toArray, List.set_cons_zero, List.set_cons_succ])
          refine wpAnyH_take (i := 17) (oi := { dst := some 27, op := Op.move (Operand.tmp 3), type := 3, pos := "ref.go:28", after := #[{ on := 9, ground := Ground.guard }], guard := some (9, true) }) (v := undef) rfl (by kernel_rfl) (by kernel_rfl) (by kernel_rfl) (fun _ _ _ h => h) (Or.inr ⟨by rfl, rfl⟩) (by assumption) ?_
          (try simp only [Act.put, List.setIfInBounds_toArray, List.set_cons_zero, List.set_cons_succ])
          refine wpAnyH_take (i := 18) (oi := { dst := some 28, op := Op.indexAddr 22 (Operand.tmp 26) (Operand.tmp 27), type := 0, pos := "ref.go:28", after := #[{ on := 16, ground := Ground.data }, { on := 17, ground := Ground.data }, { on := 9, ground := Ground.guard }], guard := some (9, true) }) (v := undef) rfl (by kernel_rfl) (by kernel_rfl) (by kernel_rfl) (fun _ _ _ h => h) (Or.inr ⟨by rfl, rfl⟩) (by assumption) ?_
          (try simp only [Act.put, List.setIfInBounds_toArray, List.set_cons_zero, List.set_cons_succ])
          refine wpAnyH_take (i := 19) (oi := { dst := some 29, op := Op.fieldAddr 28 (Operand.tmp 28) 0, type := 0, pos := "ref.go:28", after := #[{ on := 18, ground := Ground.data }, { on := 9, ground := Ground.guard }], guard := some (9, true) }) (v := undef) rfl (by kernel_rfl) (by kernel_rfl) (by kernel_rfl) (fun _ _ _ h => h) (Or.inr ⟨by rfl, rfl⟩) (by assumption) ?_
          (try simp only [Act.put, List.setIfInBounds_toArray, List.set_cons_zero, List.set_cons_succ])
          refine wpAnyH_take (i := 20) (oi := { dst := some 30, op := Op.load 25 (Operand.tmp 29), type := 25, pos := "ref.go:28", after := #[{ on := 19, ground := Ground.data }, { on := 9, ground := Ground.guard }], guard := some (9, true) }) (v := undef) rfl (by kernel_rfl) (by kernel_rfl) (by kernel_rfl) (fun _ _ _ h => h) (Or.inr ⟨by rfl, rfl⟩) (by assumption) ?_
          (try simp only [Act.put, List.setIfInBounds_toArray, List.set_cons_zero, List.set_cons_succ])
          refine wpAnyH_take (i := 21) (oi := { dst := some 31, op := Op.call { callee := Callee.value (Operand.func 52), args := #[Operand.tmp 25, Operand.tmp 30], argTypes := #[25, 25] }, type := 3, pos := "ref.go:28", after := #[{ on := 15, ground := Ground.data }, { on := 20, ground := Ground.data }, { on := 9, ground := Ground.chain }, { on := 9, ground := Ground.guard }], guard := some (9, true) }) (v := undef) rfl (by kernel_rfl) (by kernel_rfl) (by kernel_rfl) (fun _ _ _ h => h) (Or.inr ⟨by rfl, rfl⟩) (by assumption) ?_
          (try simp only [Act.put, List.setIfInBounds_toArray, List.set_cons_zero, List.set_cons_succ])
          refine wpAnyH_take (i := 22) (oi := { dst := some 32, op := Op.binOp BinOp.neq 3 (Operand.tmp 31) (Operand.const (Value.int IntKind.i64 (-1))) 3, type := 4, pos := "ref.go:28", after := #[{ on := 21, ground := Ground.data }, { on := 9, ground := Ground.guard }], guard := some (9, true) }) (v := undef) rfl (by kernel_rfl) (by kernel_rfl) (by kernel_rfl) (fun _ _ _ h => h) (Or.inr ⟨by rfl, rfl⟩) (by assumption) ?_
          (try simp only [Act.put, List.setIfInBounds_toArray, List.set_cons_zero, List.set_cons_succ])
          refine wpAnyH_take (i := 23) (oi := { dst := some 33, op := Op.pick (Operand.tmp 19) (Operand.tmp 32) (Operand.const (Value.bool false)), type := 4, pos := "ref.go:28", after := #[{ on := 9, ground := Ground.data }, { on := 22, ground := Ground.data }, { on := 6, ground := Ground.guard }], guard := some (6, false) }) (v := ?vr2_23) rfl (by kernel_rfl) (by kernel_rfl) (by kernel_rfl) (fun _ _ _ h => h) (Or.inl ⟨by rfl, ?hyr2_23⟩) (by assumption) ?restr2_23
          case hyr2_23 => (intro wS hS; (try dsimp only at hS); go_simp; (try with_reducible rfl))
          (try simp only [Act.put, List.setIfInBounds_toArray, List.set_cons_zero, List.set_cons_succ])
          refine wpAnyH_take (i := 24) (oi := { dst := some 34, op := Op.pick (Operand.tmp 16) (Operand.const (Value.bool true)) (Operand.tmp 33), type := 4, pos := "ref.go:28", after := #[{ on := 6, ground := Ground.data }, { on := 23, ground := Ground.data }], guard := none }) (v := ?vr2_24) rfl (by kernel_rfl) (by kernel_rfl) (by kernel_rfl) (fun _ _ _ h => h) (Or.inl ⟨by rfl, ?hyr2_24⟩) (by assumption) ?restr2_24
          case hyr2_24 => (intro wS hS; (try dsimp only at hS); go_simp; (try with_reducible rfl))
          (try simp only [Act.put, List.setIfInBounds_toArray, List.set_cons_zero, List.set_cons_succ])
          refine wpAnyH_done (by kernel_rfl) ?_ _
          go_wp2
          go_roundw
          case rel => exact ⟨k + 1, by omega, by go_num, hg', hHeld.2.2.2.2.2.2.2.2⟩
          case measure => simp [intOf]; omega
        · have hkp : k - 1 < l.length := by omega
          obtain ⟨ad', had, p0, p1, _⟩ := at_e HR.out rfl (k - 1) hkp
          injection had with had
          subst had
          replace p0 := cell_below hb p0
          replace p1 := cell_below hb p1
          obtain ⟨p, hp⟩ : ∃ p, k - 1 = p := ⟨_, rfl⟩
          have ho : ∃ o, ordK (l[k - 1]).f0 x.f0 = o := ⟨_, rfl⟩
          obtain ⟨o, ho⟩ := ho
          have hthree : o = -1 ∨ o = 0 ∨ o = 1 := by rw [← ho]; exact ordK_three _ _
          have hord : o < 0 → ∀ h0 : 0 < k, ordK (l[k - 1]'(by omega)).f0 l[k].f0 < 0 := by intro h _; rw [HX.out, ho]; exact h
          have hord2 : 0 ≤ o → ∃ h0 : 0 < k, 0 ≤ ordK (l[k - 1]'(by omega)).f0 l[k].f0 := by intro h; exact ⟨h0, by rw [HX.out, ho]; exact h⟩
          have hw : IntKind.wrap .i64 ((k : Int) - 1) = (p : Int) := (IntWalk.i64_in _ (by omega)).trans (by omega)
          have hpl : p < l.length := by omega
          have hgt : decide (0 < (k : Int)) = true := by simp; omega
          obtain ⟨y, hy⟩ : ∃ y, (l[k - 1]).f0 = y := ⟨_, rfl⟩
          rw [hy] at p0 p1 ho
          rw [hp] at p0 p1
          have HO2 := Sealed.mk ho
          have HP := Sealed.mk hp
          have H0 := Sealed.mk h0
          have HD := Sealed.mk hord
          have HD2 := Sealed.mk hord2
          clear ho hy hord hord2 hp h0
          have hcase : o = -1 ∨ 0 ≤ o := by omega
          clear hthree
          rcases hcase with ho1 | ho1
          · subst ho1
            have hg' := Sealed.mk (good_next hg.out hlt (by rw [HX.out]; exact HBX.out) (HD.out (by omega)))
            clear HD HD2
            go_wp2_with fail
            refine wp_region_held_drew (S := fun w' => w'.cell? (ad.add (k * 8)) = some (.int .u32 x.f0.f0) ∧ w'.cell? ⟨(ad.add (k * 8)).block, (ad.add (k * 8)).off + 1, none⟩ = some (.string x.f0.f1) ∧ w'.cell? ⟨(ad.add (k * 8)).block, (ad.add (k * 8)).off + 2, none⟩ = some (.int .i64 x.f1) ∧ w'.cell? ⟨(ad.add (k * 8)).block, (ad.add (k * 8)).off + 3, none⟩ = some (.string x.f2) ∧ w'.cell? ⟨(ad.add (k * 8)).block, (ad.add (k * 8)).off + 4, none⟩ = some (.int .u64 x.f3) ∧ w'.cell? ⟨(ad.add (k * 8)).block, (ad.add (k * 8)).off + 5, none⟩ = some (.string x.f4) ∧ w'.cell? ⟨(ad.add (k * 8)).block, (ad.add (k * 8)).off + 6, none⟩ = some (.int .i64 x.f5) ∧ w'.cell? ⟨(ad.add (k * 8)).block, (ad.add (k * 8)).off + 7, none⟩ = some (.int .i64 x.f6) ∧ w'.cell? (ad.add (p * 8)) = some (.int .u32 y.f0) ∧ w'.cell? ⟨(ad.add (p * 8)).block, (ad.add (p * 8)).off + 1, none⟩ = some (.string y.f1) ∧ Below w.heap.size w w') (by kernel_rfl) (⟨c0, c1, c2, c3, c4, c5, c6, c7, p0, p1, hb.drew⟩) (fun hHeld => ?_)
            refine wpAnyH_take (i := 0) (oi := { dst := some 10, op := Op.move (Operand.tmp 0), type := 22, pos := "ref.go:28", after := #[], guard := none }) (v := ?vr3_0) rfl (by kernel_rfl) (by kernel_rfl) (by kernel_rfl) (fun _ _ _ h => h) (Or.inl ⟨by rfl, ?hyr3_0⟩) (by assumption) ?restr3_0
            case hyr3_0 => (intro wS hS; (try dsimp only at hS); go_simp; (try with_reducible rfl))
            (try simp only [Act.put, List.setIfInBounds_toArray, List.set_cons_zero, List.set_cons_succ])
            refine wpAnyH_take (i := 1) (oi := { dst := some 11, op := Op.move (Operand.tmp 3), type := 3, pos := "ref.go:28", after := #[], guard := none }) (v := ?vr3_1) rfl (by kernel_rfl) (by kernel_rfl) (by kernel_rfl) (fun _ _ _ h => h) (Or.inl ⟨by rfl, ?hyr3_1⟩) (by assumption) ?restr3_1
            case hyr3_1 => (intro wS hS; (try dsimp only at hS); go_simp; (try with_reducible rfl))
            (try simp only [Act.put, List.setIfInBounds_toArray, List.set_cons_zero, List.set_cons_succ])
            refine wpAnyH_take (i := 2) (oi := { dst := some 12, op := Op.indexAddr 22 (Operand.tmp 10) (Operand.tmp 11), type := 0, pos := "ref.go:28", after := #[{ on := 0, ground := Ground.data }, { on := 1, ground := Ground.data }], guard := none }) (v := ?vr3_2) rfl (by kernel_rfl) (by kernel_rfl) (by kernel_rfl) (fun _ _ _ h => h) (Or.inl ⟨by rfl, ?hyr3_2⟩) (by assumption) ?restr3_2
            case hyr3_2 => (intro wS hS; (try dsimp only at hS); go_simp; (try with_reducible rfl))
            (try simp only [Act.put, List.setIfInBounds_toArray, List.set_cons_zero, List.set_cons_succ])
            refine wpAnyH_take (i := 3) (oi := { dst := some 13, op := Op.load 28 (Operand.tmp 12), type := 28, pos := "ref.go:28", after := #[{ on := 2, ground := Ground.data }], guard := none }) (v := ?vr3_3) rfl (by kernel_rfl) (by kernel_rfl) (by kernel_rfl) (fun _ _ _ h => h) (Or.inl ⟨by rfl, ?hyr3_3⟩) (by assumption) ?restr3_3
            case hyr3_3 => (intro wS hS; (try dsimp only at hS); go_simp; (try with_reducible rfl))
            (try simp only [Act.put, List.setIfInBounds_toArray, List.set_cons_zero, List.set_cons_succ])
            refine wpAnyH_ready (rs := [4]) (by kernel_rfl) (by simp) (AllReadyH.cons (o := { dst := some 14, op := Op.call { callee := Callee.value (Operand.func 22), args := #[Operand.tmp 13], argTypes := #[28] }, type := 4, pos := "ref.go:28", after := #[{ on := 3, ground := Ground.data }], guard := none }) rfl (fun K hK => ?_) AllReadyH.nil)
            go_simp
            refine (ref_entry x HO.out true HBX.out _).mono ?_
            rintro e wz ⟨rfl, hbz⟩
            refine hK.out _ _ ⟨cell_below hbz hHeld.1, cell_below hbz hHeld.2.1, cell_below hbz hHeld.2.2.1, cell_below hbz hHeld.2.2.2.1, cell_below hbz hHeld.2.2.2.2.1, cell_below hbz hHeld.2.2.2.2.2.1, cell_below hbz hHeld.2.2.2.2.2.2.1, cell_below hbz hHeld.2.2.2.2.2.2.2.1, cell_below hbz hHeld.2.2.2.2.2.2.2.2.1, cell_below hbz hHeld.2.2.2.2.2.2.2.2.2.1, below_next hHeld.2.2.2.2.2.2.2.2.2.2 hbz⟩ (fun hHeld' => ?_)
            clear hHeld hbz
            have hHeld := hHeld'
            clear hHeld'
            clear hK K
            (try simp only [Act.put, List.setIfInBounds_toArray, List.set_cons_zero, List.set_cons_succ])
            refine wpAnyH_take (i := 5) (oi := { dst := some 15, op := Op.unOp UnOp.not 4 (Operand.tmp 14), type := 4, pos := "ref.go:28", after := #[{ on := 4, ground := Ground.data }], guard := none }) (v := ?vr3_5) rfl (by kernel_rfl) (by kernel_rfl) (by kernel_rfl) (fun _ _ _ h => h) (Or.inl ⟨by rfl, ?hyr3_5⟩) (by assumption) ?restr3_5
            case hyr3_5 => (intro wS hS; (try dsimp only at hS); go_simp; (try with_reducible rfl))
            (try simp only [Act.put, List.setIfInBounds_toArray, List.set_cons_zero, List.set_cons_succ])
            refine wpAnyH_take (i := 6) (oi := { dst := some 16, op := Op.move (Operand.tmp 15), type := 4, pos := "ref.go:28", after := #[{ on := 5, ground := Ground.data }, { on := 4, ground := Ground.chain }], guard := none }) (v := ?vr3_6) rfl (by kernel_rfl) (by kernel_rfl) (by kernel_rfl) (fun _ _ _ h => h) (Or.inl ⟨by rfl, ?hyr3_6⟩) (by assumption) ?restr3_6
            case hyr3_6 => (intro wS hS; (try dsimp only at hS); go_simp; (try with_reducible rfl))
            (try simp only [Act.put, List.setIfInBounds_toArray, List.set_cons_zero, List.set_cons_succ])
            refine wpAnyH_take (i := 7) (oi := { dst := some 17, op := Op.move (Operand.tmp 3), type := 3, pos := "ref.go:28", after := #[{ on := 6, ground := Ground.guard }], guard := some (6, false) }) (v := ?vr3_7) rfl (by kernel_rfl) (by kernel_rfl) (by kernel_rfl) (fun _ _ _ h => h) (Or.inl ⟨by rfl, ?hyr3_7⟩) (by assumption) ?restr3_7
            case hyr3_7 => (intro wS hS; (try dsimp only at hS); go_simp; (try with_reducible rfl))
            (try simp only [Act.put, List.setIfInBounds_toArray, List.set_cons_zero, List.set_cons_succ])
            refine wpAnyH_take (i := 8) (oi := { dst := some 18, op := Op.binOp BinOp.gtr 3 (Operand.tmp 17) (Operand.const (Value.int IntKind.i64 0)) 3, type := 4, pos := "ref.go:28", after := #[{ on := 7, ground := Ground.data }, { on := 6, ground := Ground.guard }], guard := some (6, false) }) (v := .bool true) rfl (by kernel_rfl) (by kernel_rfl) (by kernel_rfl) (fun _ _ _ h => h) (Or.inl ⟨by rfl, ?hyr3_8⟩) (by assumption) ?restr3_8
            case hyr3_8 => (intro wS hS; (try dsimp only at hS); rw [← hgt]; go_simp; (try with_reducible rfl))
            (try simp only [Act.put, List.setIfInBounds_toArray, List.set_cons_zero, List.set_cons_succ])
            refine wpAnyH_take (i := 9) (oi := { dst := some 19, op := Op.move (Operand.tmp 18), type := 4, pos := "ref.go:28", after := #[{ on := 8, ground := Ground.data }, { on := 6, ground := Ground.chain }, { on := 6, ground := Ground.guard }], guard := some (6, false) }) (v := ?vr3_9) rfl (by kernel_rfl) (by kernel_rfl) (by kernel_rfl) (fun _ _ _ h => h) (Or.inl ⟨by rfl, ?hyr3_9⟩) (by assumption) ?restr3_9
            case hyr3_9 => (intro wS hS; (try dsimp only at hS); go_simp; (try with_reducible rfl))
            (try simp only [Act.put, List.setIfInBounds_toArray, List.set_cons_zero, List.set_cons_succ])
            refine wpAnyH_take (i := 10) (oi := { dst := some 20, op := Op.move (Operand.tmp 0), type := 22, pos := "ref.go:28", after := #[{ on := 9, ground := Ground.guard }], guard := some (9, true) }) (v := ?vr3_10) rfl (by kernel_rfl) (by kernel_rfl) (by kernel_rfl) (fun _ _ _ h => h) (Or.inl ⟨by rfl, ?hyr3_10⟩) (by assumption) ?restr3_10
            case hyr3_10 => (intro wS hS; (try dsimp only at hS); go_simp; (try with_reducible rfl))
            (try simp only [Act.put, List.setIfInBounds_toArray, List.set_cons_zero, List.set_cons_succ])
            refine wpAnyH_take (i := 11) (oi := { dst := some 21, op := Op.move (Operand.tmp 3), type := 3, pos := "ref.go:28", after := #[{ on := 9, ground := Ground.guard }], guard := some (9, true) }) (v := ?vr3_11) rfl (by kernel_rfl) (by kernel_rfl) (by kernel_rfl) (fun _ _ _ h => h) (Or.inl ⟨by rfl, ?hyr3_11⟩) (by assumption) ?restr3_11
            case hyr3_11 => (intro wS hS; (try dsimp only at hS); go_simp; (try with_reducible rfl))
            (try simp only [Act.put, List.setIfInBounds_toArray, List.set_cons_zero, List.set_cons_succ])
            refine wpAnyH_take (i := 12) (oi := { dst := some 22, op := Op.binOp BinOp.sub 3 (Operand.tmp 21) (Operand.const (Value.int IntKind.i64 1)) 3, type := 3, pos := "ref.go:28", after := #[{ on := 11, ground := Ground.data }, { on := 9, ground := Ground.guard }], guard := some (9, true) }) (v := ?vr3_12) rfl (by kernel_rfl) (by kernel_rfl) (by kernel_rfl) (fun _ _ _ h => h) (Or.inl ⟨by rfl, ?hyr3_12⟩) (by assumption) ?restr3_12
            case hyr3_12 => (intro wS hS; (try dsimp only at hS); go_simp; (try with_reducible rfl))
            (try simp only [Act.put, List.setIfInBounds_toArray, List.set_cons_zero, List.set_cons_succ])
            refine wpAnyH_take (i := 13) (oi := { dst := some 23, op := Op.indexAddr 22 (Operand.tmp 20) (Operand.tmp 22), type := 0, pos := "ref.go:28", after := #[{ on := 10, ground := Ground.data }, { on := 12, ground := Ground.data }, { on := 9, ground := Ground.guard }], guard := some (9, true) }) (v := ?vr3_13) rfl (by kernel_rfl) (by kernel_rfl) (by kernel_rfl) (fun _ _ _ h => h) (Or.inl ⟨by rfl, ?hyr3_13⟩) (by assumption) ?restr3_13
            case hyr3_13 => (intro wS hS; (try dsimp only at hS); go_simp; (try with_reducible rfl))
            (try simp only [Act.put, List.setIfInBounds_toArray, List.set_cons_zero, List.set_cons_succ])
            refine wpAnyH_take (i := 14) (oi := { dst := some 24, op := Op.fieldAddr 28 (Operand.tmp 23) 0, type := 0, pos := "ref.go:28", after := #[{ on := 13, ground := Ground.data }, { on := 9, ground := Ground.guard }], guard := some (9, true) }) (v := ?vr3_14) rfl (by kernel_rfl) (by kernel_rfl) (by kernel_rfl) (fun _ _ _ h => h) (Or.inl ⟨by rfl, ?hyr3_14⟩) (by assumption) ?restr3_14
            case hyr3_14 => (intro wS hS; (try dsimp only at hS); go_simp; (try with_reducible rfl))
            (try simp only [Act.put, List.setIfInBounds_toArray, List.set_cons_zero, List.set_cons_succ])
            refine wpAnyH_take (i := 15) (oi := { dst := some 25, op := Op.load 25 (Operand.tmp 24), type := 25, pos := "ref.go:28", after := #[{ on := 14, ground := Ground.data }, { on := 9, ground := Ground.guard }], guard := some (9, true) }) (v := ?vr3_15) rfl (by kernel_rfl) (by kernel_rfl) (by kernel_rfl) (fun _ _ _ h => h) (Or.inl ⟨by rfl, ?hyr3_15⟩) (by assumption) ?restr3_15
            case hyr3_15 => (intro wS hS; (try dsimp only at hS); go_simp; (try with_reducible rfl))
            (try simp only [Act.put, List.setIfInBounds_toArray, List.set_cons_zero, List.set_cons_succ])
            refine wpAnyH_take (i := 16) (oi := { dst := some 26, op := Op.move (Operand.tmp 0), type := 22, pos := "ref.go:28", after := #[{ on := 9, ground := Ground.guard }], guard := some (9, true) }) (v := ?vr3_16) rfl (by kernel_rfl) (by kernel_rfl) (by kernel_rfl) (fun _ _ _ h => h) (Or.inl ⟨by rfl, ?hyr3_16⟩) (by assumption) ?restr3_16
            case hyr3_16 => (intro wS hS; (try dsimp only at hS); go_simp; (try with_reducible rfl))
            (try simp only [Act.put, List.setIfInBounds_toArray, List.set_cons_zero, List.set_cons_succ])
            refine wpAnyH_take (i := 17) (oi := { dst := some 27, op := Op.move (Operand.tmp 3), type := 3, pos := "ref.go:28", after := #[{ on := 9, ground := Ground.guard }], guard := some (9, true) }) (v := ?vr3_17) rfl (by kernel_rfl) (by kernel_rfl) (by kernel_rfl) (fun _ _ _ h => h) (Or.inl ⟨by rfl, ?hyr3_17⟩) (by assumption) ?restr3_17
            case hyr3_17 => (intro wS hS; (try dsimp only at hS); go_simp; (try with_reducible rfl))
            (try simp only [Act.put, List.setIfInBounds_toArray, List.set_cons_zero, List.set_cons_succ])
            refine wpAnyH_take (i := 18) (oi := { dst := some 28, op := Op.indexAddr 22 (Operand.tmp 26) (Operand.tmp 27), type := 0, pos := "ref.go:28", after := #[{ on := 16, ground := Ground.data }, { on := 17, ground := Ground.data }, { on := 9, ground := Ground.guard }], guard := some (9, true) }) (v := ?vr3_18) rfl (by kernel_rfl) (by kernel_rfl) (by kernel_rfl) (fun _ _ _ h => h) (Or.inl ⟨by rfl, ?hyr3_18⟩) (by assumption) ?restr3_18
            case hyr3_18 => (intro wS hS; (try dsimp only at hS); go_simp; (try with_reducible rfl))
            (try simp only [Act.put, List.setIfInBounds_toArray, List.set_cons_zero, List.set_cons_succ])
            refine wpAnyH_take (i := 19) (oi := { dst := some 29, op := Op.fieldAddr 28 (Operand.tmp 28) 0, type := 0, pos := "ref.go:28", after := #[{ on := 18, ground := Ground.data }, { on := 9, ground := Ground.guard }], guard := some (9, true) }) (v := ?vr3_19) rfl (by kernel_rfl) (by kernel_rfl) (by kernel_rfl) (fun _ _ _ h => h) (Or.inl ⟨by rfl, ?hyr3_19⟩) (by assumption) ?restr3_19
            case hyr3_19 => (intro wS hS; (try dsimp only at hS); go_simp; (try with_reducible rfl))
            (try simp only [Act.put, List.setIfInBounds_toArray, List.set_cons_zero, List.set_cons_succ])
            refine wpAnyH_take (i := 20) (oi := { dst := some 30, op := Op.load 25 (Operand.tmp 29), type := 25, pos := "ref.go:28", after := #[{ on := 19, ground := Ground.data }, { on := 9, ground := Ground.guard }], guard := some (9, true) }) (v := ?vr3_20) rfl (by kernel_rfl) (by kernel_rfl) (by kernel_rfl) (fun _ _ _ h => h) (Or.inl ⟨by rfl, ?hyr3_20⟩) (by assumption) ?restr3_20
            case hyr3_20 => (intro wS hS; (try dsimp only at hS); go_simp; (try with_reducible rfl))
            (try simp only [Act.put, List.setIfInBounds_toArray, List.set_cons_zero, List.set_cons_succ])
            refine wpAnyH_ready (rs := [21]) (by kernel_rfl) (by simp) (AllReadyH.cons (o := { dst := some 31, op := Op.call { callee := Callee.value (Operand.func 52), args := #[Operand.tmp 25, Operand.tmp 30], argTypes := #[25, 25] }, type := 3, pos := "ref.go:28", after := #[{ on := 15, ground := Ground.data }, { on := 20, ground := Ground.data }, { on := 9, ground := Ground.chain }, { on := 9, ground := Ground.guard }], guard := some (9, true) }) rfl (fun K hK => ?_) AllReadyH.nil)
            go_simp
            refine (ref_order y x.f0 _ HO2.out _).mono ?_
            rintro e wz ⟨rfl, hbz⟩
            refine hK.out _ _ ⟨cell_below hbz hHeld.1, cell_below hbz hHeld.2.1, cell_below hbz hHeld.2.2.1, cell_below hbz hHeld.2.2.2.1, cell_below hbz hHeld.2.2.2.2.1, cell_below hbz hHeld.2.2.2.2.2.1, cell_below hbz hHeld.2.2.2.2.2.2.1, cell_below hbz hHeld.2.2.2.2.2.2.2.1, cell_below hbz hHeld.2.2.2.2.2.2.2.2.1, cell_below hbz hHeld.2.2.2.2.2.2.2.2.2.1, below_next hHeld.2.2.2.2.2.2.2.2.2.2 hbz⟩ (fun hHeld' => ?_)
            clear hHeld hbz
            have hHeld := hHeld'
            clear hHeld'
            clear hK K
            (try simp only [Act.put, List.setIfInBounds_toArray, List.set_cons_zero, List.set_cons_succ])
            refine wpAnyH_take (i := 22) (oi := { dst := some 32, op := Op.binOp BinOp.neq 3 (Operand.tmp 31) (Operand.const (Value.int IntKind.i64 (-1))) 3, type := 4, pos := "ref.go:28", after := #[{ on := 21, ground := Ground.data }, { on := 9, ground := Ground.guard }], guard := some (9, true) }) (v := ?vr3_22) rfl (by kernel_rfl) (by kernel_rfl) (by kernel_rfl) (fun _ _ _ h => h) (Or.inl ⟨by rfl, ?hyr3_22⟩) (by assumption) ?restr3_22
            case hyr3_22 => (intro wS hS; (try dsimp only at hS); go_simp; (try with_reducible rfl))
            (try simp only [Act.put, List.setIfInBounds_toArray, List.set_cons_zero, List.set_cons_succ])
            refine wpAnyH_take (i := 23) (oi := { dst := some 33, op := Op.pick (Operand.tmp 19) (Operand.tmp 32) (Operand.const (Value.bool false)), type := 4, pos := "ref.go:28", after := #[{ on := 9, ground := Ground.data }, { on := 22, ground := Ground.data }, { on := 6, ground := Ground.guard }], guard := some (6, false) }) (v := ?vr3_23) rfl (by kernel_rfl) (by kernel_rfl) (by kernel_rfl) (fun _ _ _ h => h) (Or.inl ⟨by rfl, ?hyr3_23⟩) (by assumption) ?restr3_23
            case hyr3_23 => (intro wS hS; (try dsimp only at hS); go_simp; (try with_reducible rfl))
            (try simp only [Act.put, List.setIfInBounds_toArray, List.set_cons_zero, List.set_cons_succ])
            refine wpAnyH_take (i := 24) (oi := { dst := some 34, op := Op.pick (Operand.tmp 16) (Operand.const (Value.bool true)) (Operand.tmp 33), type := 4, pos := "ref.go:28", after := #[{ on := 6, ground := Ground.data }, { on := 23, ground := Ground.data }], guard := none }) (v := ?vr3_24) rfl (by kernel_rfl) (by kernel_rfl) (by kernel_rfl) (fun _ _ _ h => h) (Or.inl ⟨by rfl, ?hyr3_24⟩) (by assumption) ?restr3_24
            case hyr3_24 => (intro wS hS; (try dsimp only at hS); go_simp; (try with_reducible rfl))
            (try simp only [Act.put, List.setIfInBounds_toArray, List.set_cons_zero, List.set_cons_succ])
            refine wpAnyH_done (by kernel_rfl) ?_ _
            go_wp2
            go_roundw
            case rel => exact ⟨k + 1, by omega, by go_num, hg', hHeld.2.2.2.2.2.2.2.2.2.2⟩
            case measure => simp [intOf]; omega
          · have hbad := Sealed.mk (bad_at hlt (.inr (HD2.out ho1)))
            have g1 : (o == -1) = false := beq_eq_false_iff_ne.2 (by omega)
            clear HD HD2 ho1
            go_wp2_with fail
            refine wp_region_held_drew (S := fun w' => w'.cell? (ad.add (k * 8)) = some (.int .u32 x.f0.f0) ∧ w'.cell? ⟨(ad.add (k * 8)).block, (ad.add (k * 8)).off + 1, none⟩ = some (.string x.f0.f1) ∧ w'.cell? ⟨(ad.add (k * 8)).block, (ad.add (k * 8)).off + 2, none⟩ = some (.int .i64 x.f1) ∧ w'.cell? ⟨(ad.add (k * 8)).block, (ad.add (k * 8)).off + 3, none⟩ = some (.string x.f2) ∧ w'.cell? ⟨(ad.add (k * 8)).block, (ad.add (k * 8)).off + 4, none⟩ = some (.int .u64 x.f3) ∧ w'.cell? ⟨(ad.add (k * 8)).block, (ad.add (k * 8)).off + 5, none⟩ = some (.string x.f4) ∧ w'.cell? ⟨(ad.add (k * 8)).block, (ad.add (k * 8)).off + 6, none⟩ = some (.int .i64 x.f5) ∧ w'.cell? ⟨(ad.add (k * 8)).block, (ad.add (k * 8)).off + 7, none⟩ = some (.int .i64 x.f6) ∧ w'.cell? (ad.add (p * 8)) = some (.int .u32 y.f0) ∧ w'.cell? ⟨(ad.add (p * 8)).block, (ad.add (p * 8)).off + 1, none⟩ = some (.string y.f1) ∧ Below w.heap.size w w') (by kernel_rfl) (⟨c0, c1, c2, c3, c4, c5, c6, c7, p0, p1, hb.drew⟩) (fun hHeld => ?_)
            refine wpAnyH_take (i := 0) (oi := { dst := some 10, op := Op.move (Operand.tmp 0), type := 22, pos := "ref.go:28", after := #[], guard := none }) (v := ?vr4_0) rfl (by kernel_rfl) (by kernel_rfl) (by kernel_rfl) (fun _ _ _ h => h) (Or.inl ⟨by rfl, ?hyr4_0⟩) (by assumption) ?restr4_0
            case hyr4_0 => (intro wS hS; (try dsimp only at hS); go_simp; (try with_reducible rfl))
            (try simp only [Act.put, List.setIfInBounds_toArray, List.set_cons_zero, List.set_cons_succ])
            refine wpAnyH_take (i := 1) (oi := { dst := some 11, op := Op.move (Operand.tmp 3), type := 3, pos := "ref.go:28", after := #[], guard := none }) (v := ?vr4_1) rfl (by kernel_rfl) (by kernel_rfl) (by kernel_rfl) (fun _ _ _ h => h) (Or.inl ⟨by rfl, ?hyr4_1⟩) (by assumption) ?restr4_1
            case hyr4_1 => (intro wS hS; (try dsimp only at hS); go_simp; (try with_reducible rfl))
            (try simp only [Act.put, List.setIfInBounds_toArray, List.set_cons_zero, List.set_cons_succ])
            refine wpAnyH_take (i := 2) (oi := { dst := some 12, op := Op.indexAddr 22 (Operand.tmp 10) (Operand.tmp 11), type := 0, pos := "ref.go:28", after := #[{ on := 0, ground := Ground.data }, { on := 1, ground := Ground.data }], guard := none }) (v := ?vr4_2) rfl (by kernel_rfl) (by kernel_rfl) (by kernel_rfl) (fun _ _ _ h => h) (Or.inl ⟨by rfl, ?hyr4_2⟩) (by assumption) ?restr4_2
            case hyr4_2 => (intro wS hS; (try dsimp only at hS); go_simp; (try with_reducible rfl))
            (try simp only [Act.put, List.setIfInBounds_toArray, List.set_cons_zero, List.set_cons_succ])
            refine wpAnyH_take (i := 3) (oi := { dst := some 13, op := Op.load 28 (Operand.tmp 12), type := 28, pos := "ref.go:28", after := #[{ on := 2, ground := Ground.data }], guard := none }) (v := ?vr4_3) rfl (by kernel_rfl) (by kernel_rfl) (by kernel_rfl) (fun _ _ _ h => h) (Or.inl ⟨by rfl, ?hyr4_3⟩) (by assumption) ?restr4_3
            case hyr4_3 => (intro wS hS; (try dsimp only at hS); go_simp; (try with_reducible rfl))
            (try simp only [Act.put, List.setIfInBounds_toArray, List.set_cons_zero, List.set_cons_succ])
            refine wpAnyH_ready (rs := [4]) (by kernel_rfl) (by simp) (AllReadyH.cons (o := { dst := some 14, op := Op.call { callee := Callee.value (Operand.func 22), args := #[Operand.tmp 13], argTypes := #[28] }, type := 4, pos := "ref.go:28", after := #[{ on := 3, ground := Ground.data }], guard := none }) rfl (fun K hK => ?_) AllReadyH.nil)
            go_simp
            refine (ref_entry x HO.out true HBX.out _).mono ?_
            rintro e wz ⟨rfl, hbz⟩
            refine hK.out _ _ ⟨cell_below hbz hHeld.1, cell_below hbz hHeld.2.1, cell_below hbz hHeld.2.2.1, cell_below hbz hHeld.2.2.2.1, cell_below hbz hHeld.2.2.2.2.1, cell_below hbz hHeld.2.2.2.2.2.1, cell_below hbz hHeld.2.2.2.2.2.2.1, cell_below hbz hHeld.2.2.2.2.2.2.2.1, cell_below hbz hHeld.2.2.2.2.2.2.2.2.1, cell_below hbz hHeld.2.2.2.2.2.2.2.2.2.1, below_next hHeld.2.2.2.2.2.2.2.2.2.2 hbz⟩ (fun hHeld' => ?_)
            clear hHeld hbz
            have hHeld := hHeld'
            clear hHeld'
            clear hK K
            (try simp only [Act.put, List.setIfInBounds_toArray, List.set_cons_zero, List.set_cons_succ])
            refine wpAnyH_take (i := 5) (oi := { dst := some 15, op := Op.unOp UnOp.not 4 (Operand.tmp 14), type := 4, pos := "ref.go:28", after := #[{ on := 4, ground := Ground.data }], guard := none }) (v := ?vr4_5) rfl (by kernel_rfl) (by kernel_rfl) (by kernel_rfl) (fun _ _ _ h => h) (Or.inl ⟨by rfl, ?hyr4_5⟩) (by assumption) ?restr4_5
            case hyr4_5 => (intro wS hS; (try dsimp only at hS); go_simp; (try with_reducible rfl))
            (try simp only [Act.put, List.setIfInBounds_toArray, List.set_cons_zero, List.set_cons_succ])
            refine wpAnyH_take (i := 6) (oi := { dst := some 16, op := Op.move (Operand.tmp 15), type := 4, pos := "ref.go:28", after := #[{ on := 5, ground := Ground.data }, { on := 4, ground := Ground.chain }], guard := none }) (v := ?vr4_6) rfl (by kernel_rfl) (by kernel_rfl) (by kernel_rfl) (fun _ _ _ h => h) (Or.inl ⟨by rfl, ?hyr4_6⟩) (by assumption) ?restr4_6
            case hyr4_6 => (intro wS hS; (try dsimp only at hS); go_simp; (try with_reducible rfl))
            (try simp only [Act.put, List.setIfInBounds_toArray, List.set_cons_zero, List.set_cons_succ])
            refine wpAnyH_take (i := 7) (oi := { dst := some 17, op := Op.move (Operand.tmp 3), type := 3, pos := "ref.go:28", after := #[{ on := 6, ground := Ground.guard }], guard := some (6, false) }) (v := ?vr4_7) rfl (by kernel_rfl) (by kernel_rfl) (by kernel_rfl) (fun _ _ _ h => h) (Or.inl ⟨by rfl, ?hyr4_7⟩) (by assumption) ?restr4_7
            case hyr4_7 => (intro wS hS; (try dsimp only at hS); go_simp; (try with_reducible rfl))
            (try simp only [Act.put, List.setIfInBounds_toArray, List.set_cons_zero, List.set_cons_succ])
            refine wpAnyH_take (i := 8) (oi := { dst := some 18, op := Op.binOp BinOp.gtr 3 (Operand.tmp 17) (Operand.const (Value.int IntKind.i64 0)) 3, type := 4, pos := "ref.go:28", after := #[{ on := 7, ground := Ground.data }, { on := 6, ground := Ground.guard }], guard := some (6, false) }) (v := .bool true) rfl (by kernel_rfl) (by kernel_rfl) (by kernel_rfl) (fun _ _ _ h => h) (Or.inl ⟨by rfl, ?hyr4_8⟩) (by assumption) ?restr4_8
            case hyr4_8 => (intro wS hS; (try dsimp only at hS); rw [← hgt]; go_simp; (try with_reducible rfl))
            (try simp only [Act.put, List.setIfInBounds_toArray, List.set_cons_zero, List.set_cons_succ])
            refine wpAnyH_take (i := 9) (oi := { dst := some 19, op := Op.move (Operand.tmp 18), type := 4, pos := "ref.go:28", after := #[{ on := 8, ground := Ground.data }, { on := 6, ground := Ground.chain }, { on := 6, ground := Ground.guard }], guard := some (6, false) }) (v := ?vr4_9) rfl (by kernel_rfl) (by kernel_rfl) (by kernel_rfl) (fun _ _ _ h => h) (Or.inl ⟨by rfl, ?hyr4_9⟩) (by assumption) ?restr4_9
            case hyr4_9 => (intro wS hS; (try dsimp only at hS); go_simp; (try with_reducible rfl))
            (try simp only [Act.put, List.setIfInBounds_toArray, List.set_cons_zero, List.set_cons_succ])
            refine wpAnyH_take (i := 10) (oi := { dst := some 20, op := Op.move (Operand.tmp 0), type := 22, pos := "ref.go:28", after := #[{ on := 9, ground := Ground.guard }], guard := some (9, true) }) (v := ?vr4_10) rfl (by kernel_rfl) (by kernel_rfl) (by kernel_rfl) (fun _ _ _ h => h) (Or.inl ⟨by rfl, ?hyr4_10⟩) (by assumption) ?restr4_10
            case hyr4_10 => (intro wS hS; (try dsimp only at hS); go_simp; (try with_reducible rfl))
            (try simp only [Act.put, List.setIfInBounds_toArray, List.set_cons_zero, List.set_cons_succ])
            refine wpAnyH_take (i := 11) (oi := { dst := some 21, op := Op.move (Operand.tmp 3), type := 3, pos := "ref.go:28", after := #[{ on := 9, ground := Ground.guard }], guard := some (9, true) }) (v := ?vr4_11) rfl (by kernel_rfl) (by kernel_rfl) (by kernel_rfl) (fun _ _ _ h => h) (Or.inl ⟨by rfl, ?hyr4_11⟩) (by assumption) ?restr4_11
            case hyr4_11 => (intro wS hS; (try dsimp only at hS); go_simp; (try with_reducible rfl))
            (try simp only [Act.put, List.setIfInBounds_toArray, List.set_cons_zero, List.set_cons_succ])
            refine wpAnyH_take (i := 12) (oi := { dst := some 22, op := Op.binOp BinOp.sub 3 (Operand.tmp 21) (Operand.const (Value.int IntKind.i64 1)) 3, type := 3, pos := "ref.go:28", after := #[{ on := 11, ground := Ground.data }, { on := 9, ground := Ground.guard }], guard := some (9, true) }) (v := ?vr4_12) rfl (by kernel_rfl) (by kernel_rfl) (by kernel_rfl) (fun _ _ _ h => h) (Or.inl ⟨by rfl, ?hyr4_12⟩) (by assumption) ?restr4_12
            case hyr4_12 => (intro wS hS; (try dsimp only at hS); go_simp; (try with_reducible rfl))
            (try simp only [Act.put, List.setIfInBounds_toArray, List.set_cons_zero, List.set_cons_succ])
            refine wpAnyH_take (i := 13) (oi := { dst := some 23, op := Op.indexAddr 22 (Operand.tmp 20) (Operand.tmp 22), type := 0, pos := "ref.go:28", after := #[{ on := 10, ground := Ground.data }, { on := 12, ground := Ground.data }, { on := 9, ground := Ground.guard }], guard := some (9, true) }) (v := ?vr4_13) rfl (by kernel_rfl) (by kernel_rfl) (by kernel_rfl) (fun _ _ _ h => h) (Or.inl ⟨by rfl, ?hyr4_13⟩) (by assumption) ?restr4_13
            case hyr4_13 => (intro wS hS; (try dsimp only at hS); go_simp; (try with_reducible rfl))
            (try simp only [Act.put, List.setIfInBounds_toArray, List.set_cons_zero, List.set_cons_succ])
            refine wpAnyH_take (i := 14) (oi := { dst := some 24, op := Op.fieldAddr 28 (Operand.tmp 23) 0, type := 0, pos := "ref.go:28", after := #[{ on := 13, ground := Ground.data }, { on := 9, ground := Ground.guard }], guard := some (9, true) }) (v := ?vr4_14) rfl (by kernel_rfl) (by kernel_rfl) (by kernel_rfl) (fun _ _ _ h => h) (Or.inl ⟨by rfl, ?hyr4_14⟩) (by assumption) ?restr4_14
            case hyr4_14 => (intro wS hS; (try dsimp only at hS); go_simp; (try with_reducible rfl))
            (try simp only [Act.put, List.setIfInBounds_toArray, List.set_cons_zero, List.set_cons_succ])
            refine wpAnyH_take (i := 15) (oi := { dst := some 25, op := Op.load 25 (Operand.tmp 24), type := 25, pos := "ref.go:28", after := #[{ on := 14, ground := Ground.data }, { on := 9, ground := Ground.guard }], guard := some (9, true) }) (v := ?vr4_15) rfl (by kernel_rfl) (by kernel_rfl) (by kernel_rfl) (fun _ _ _ h => h) (Or.inl ⟨by rfl, ?hyr4_15⟩) (by assumption) ?restr4_15
            case hyr4_15 => (intro wS hS; (try dsimp only at hS); go_simp; (try with_reducible rfl))
            (try simp only [Act.put, List.setIfInBounds_toArray, List.set_cons_zero, List.set_cons_succ])
            refine wpAnyH_take (i := 16) (oi := { dst := some 26, op := Op.move (Operand.tmp 0), type := 22, pos := "ref.go:28", after := #[{ on := 9, ground := Ground.guard }], guard := some (9, true) }) (v := ?vr4_16) rfl (by kernel_rfl) (by kernel_rfl) (by kernel_rfl) (fun _ _ _ h => h) (Or.inl ⟨by rfl, ?hyr4_16⟩) (by assumption) ?restr4_16
            case hyr4_16 => (intro wS hS; (try dsimp only at hS); go_simp; (try with_reducible rfl))
            (try simp only [Act.put, List.setIfInBounds_toArray, List.set_cons_zero, List.set_cons_succ])
            refine wpAnyH_take (i := 17) (oi := { dst := some 27, op := Op.move (Operand.tmp 3), type := 3, pos := "ref.go:28", after := #[{ on := 9, ground := Ground.guard }], guard := some (9, true) }) (v := ?vr4_17) rfl (by kernel_rfl) (by kernel_rfl) (by kernel_rfl) (fun _ _ _ h => h) (Or.inl ⟨by rfl, ?hyr4_17⟩) (by assumption) ?restr4_17
            case hyr4_17 => (intro wS hS; (try dsimp only at hS); go_simp; (try with_reducible rfl))
            (try simp only [Act.put, List.setIfInBounds_toArray, List.set_cons_zero, List.set_cons_succ])
            refine wpAnyH_take (i := 18) (oi := { dst := some 28, op := Op.indexAddr 22 (Operand.tmp 26) (Operand.tmp 27), type := 0, pos := "ref.go:28", after := #[{ on := 16, ground := Ground.data }, { on := 17, ground := Ground.data }, { on := 9, ground := Ground.guard }], guard := some (9, true) }) (v := ?vr4_18) rfl (by kernel_rfl) (by kernel_rfl) (by kernel_rfl) (fun _ _ _ h => h) (Or.inl ⟨by rfl, ?hyr4_18⟩) (by assumption) ?restr4_18
            case hyr4_18 => (intro wS hS; (try dsimp only at hS); go_simp; (try with_reducible rfl))
            (try simp only [Act.put, List.setIfInBounds_toArray, List.set_cons_zero, List.set_cons_succ])
            refine wpAnyH_take (i := 19) (oi := { dst := some 29, op := Op.fieldAddr 28 (Operand.tmp 28) 0, type := 0, pos := "ref.go:28", after := #[{ on := 18, ground := Ground.data }, { on := 9, ground := Ground.guard }], guard := some (9, true) }) (v := ?vr4_19) rfl (by kernel_rfl) (by kernel_rfl) (by kernel_rfl) (fun _ _ _ h => h) (Or.inl ⟨by rfl, ?hyr4_19⟩) (by assumption) ?restr4_19
            case hyr4_19 => (intro wS hS; (try dsimp only at hS); go_simp; (try with_reducible rfl))
            (try simp only [Act.put, List.setIfInBounds_toArray, List.set_cons_zero, List.set_cons_succ])
            refine wpAnyH_take (i := 20) (oi := { dst := some 30, op := Op.load 25 (Operand.tmp 29), type := 25, pos := "ref.go:28", after := #[{ on := 19, ground := Ground.data }, { on := 9, ground := Ground.guard }], guard := some (9, true) }) (v := ?vr4_20) rfl (by kernel_rfl) (by kernel_rfl) (by kernel_rfl) (fun _ _ _ h => h) (Or.inl ⟨by rfl, ?hyr4_20⟩) (by assumption) ?restr4_20
            case hyr4_20 => (intro wS hS; (try dsimp only at hS); go_simp; (try with_reducible rfl))
            (try simp only [Act.put, List.setIfInBounds_toArray, List.set_cons_zero, List.set_cons_succ])
            refine wpAnyH_ready (rs := [21]) (by kernel_rfl) (by simp) (AllReadyH.cons (o := { dst := some 31, op := Op.call { callee := Callee.value (Operand.func 52), args := #[Operand.tmp 25, Operand.tmp 30], argTypes := #[25, 25] }, type := 3, pos := "ref.go:28", after := #[{ on := 15, ground := Ground.data }, { on := 20, ground := Ground.data }, { on := 9, ground := Ground.chain }, { on := 9, ground := Ground.guard }], guard := some (9, true) }) rfl (fun K hK => ?_) AllReadyH.nil)
            go_simp
            refine (ref_order y x.f0 _ HO2.out _).mono ?_
            rintro e wz ⟨rfl, hbz⟩
            refine hK.out _ _ ⟨cell_below hbz hHeld.1, cell_below hbz hHeld.2.1, cell_below hbz hHeld.2.2.1, cell_below hbz hHeld.2.2.2.1, cell_below hbz hHeld.2.2.2.2.1, cell_below hbz hHeld.2.2.2.2.2.1, cell_below hbz hHeld.2.2.2.2.2.2.1, cell_below hbz hHeld.2.2.2.2.2.2.2.1, cell_below hbz hHeld.2.2.2.2.2.2.2.2.1, cell_below hbz hHeld.2.2.2.2.2.2.2.2.2.1, below_next hHeld.2.2.2.2.2.2.2.2.2.2 hbz⟩ (fun hHeld' => ?_)
            clear hHeld hbz
            have hHeld := hHeld'
            clear hHeld'
            clear hK K
            (try simp only [Act.put, List.setIfInBounds_toArray, List.set_cons_zero, List.set_cons_succ])
            refine wpAnyH_take (i := 22) (oi := { dst := some 32, op := Op.binOp BinOp.neq 3 (Operand.tmp 31) (Operand.const (Value.int IntKind.i64 (-1))) 3, type := 4, pos := "ref.go:28", after := #[{ on := 21, ground := Ground.data }, { on := 9, ground := Ground.guard }], guard := some (9, true) }) (v := ?vr4_22) rfl (by kernel_rfl) (by kernel_rfl) (by kernel_rfl) (fun _ _ _ h => h) (Or.inl ⟨by rfl, ?hyr4_22⟩) (by assumption) ?restr4_22
            case hyr4_22 => (intro wS hS; (try dsimp only at hS); go_simp; (try with_reducible rfl))
            (try simp only [Act.put, List.setIfInBounds_toArray, List.set_cons_zero, List.set_cons_succ])
            refine wpAnyH_take (i := 23) (oi := { dst := some 33, op := Op.pick (Operand.tmp 19) (Operand.tmp 32) (Operand.const (Value.bool false)), type := 4, pos := "ref.go:28", after := #[{ on := 9, ground := Ground.data }, { on := 22, ground := Ground.data }, { on := 6, ground := Ground.guard }], guard := some (6, false) }) (v := ?vr4_23) rfl (by kernel_rfl) (by kernel_rfl) (by kernel_rfl) (fun _ _ _ h => h) (Or.inl ⟨by rfl, ?hyr4_23⟩) (by assumption) ?restr4_23
            case hyr4_23 => (intro wS hS; (try dsimp only at hS); go_simp; (try with_reducible rfl))
            (try simp only [Act.put, List.setIfInBounds_toArray, List.set_cons_zero, List.set_cons_succ])
            refine wpAnyH_take (i := 24) (oi := { dst := some 34, op := Op.pick (Operand.tmp 16) (Operand.const (Value.bool true)) (Operand.tmp 33), type := 4, pos := "ref.go:28", after := #[{ on := 6, ground := Ground.data }, { on := 23, ground := Ground.data }], guard := none }) (v := ?vr4_24) rfl (by kernel_rfl) (by kernel_rfl) (by kernel_rfl) (fun _ _ _ h => h) (Or.inl ⟨by rfl, ?hyr4_24⟩) (by assumption) ?restr4_24
            case hyr4_24 => (intro wS hS; (try dsimp only at hS); go_simp; (try with_reducible rfl))
            (try simp only [Act.put, List.setIfInBounds_toArray, List.set_cons_zero, List.set_cons_succ])
            refine wpAnyH_done (by kernel_rfl) ?_ _
            go_wp2
            go_ret
            exact ⟨by rw [hbad.out]; rfl, hHeld.2.2.2.2.2.2.2.2.2.2⟩
    · have hk2 : k = l.length := by omega
      subst hk2
      have hg' := Sealed.mk (good_all hg.out)
      have hd : decide ((l.length : Int) < 129) = decide (l.length ≤ 128) := by rw [decide_eq_decide]; omega
      go_wp2
      go_ret
      exact ⟨by rw [hg'.out]; simp [hd], hb⟩
set_option maxHeartbeats 8000000 in
set_option maxRecDepth 100000 in
theorem sh_right (A : Option Addr) (c : Nat) (l : List EE) (w : World) (hr : Kd.C k28 w A l.length l) (hc : l.length ≤ c) (hok : ∀ x ∈ l, Ok x) (hn : l.length ≤ 1000) (hty : TypesAt w) :
    Calls Tryd.prog 23 #[.slice A l.length c] w fun e w' => e = .returned (.bool (shardB l)) ∧ Below w.heap.size w w' := by
  have HR := Sealed.mk hr
  have HK := Sealed.mk hok
  have HT := Sealed.mk hty
  clear hr hok hty
  go_enter Tryd.func23, Tryd.ntmps23
  go_wp2
  refine wp_scope_label 0 (fun a' w' => ∃ (k : Nat) (n : Int) (u4 u5 u6 u7 u8 u9 u10 u11 u12 u13 u14 u15 u16 u17 u18 u19 u20 u21 u22 u23 u24 u25 u26 u27 u28 u29 u30 u31 u32 u33 u34 u35 u36 : Value), a' = { tmps := #[.slice A l.length c, undef, .bool false, .int .i64 n, u4, u5, u6, u7, u8, u9, u10, u11, u12, u13, u14, u15, u16, u17, u18, u19, u20, u21, u22, u23, u24, u25, u26, u27, u28, u29, u30, u31, u32, u33, u34, u35, u36], defers := [] } ∧ n = (k : Int) ∧ k ≤ l.length ∧ Sealed (goodTo l k) ∧ Below w.heap.size w w') (fun a' _ => l.length - (slotInt a' 3).toNat) rfl ?_ ?_
  · rintro J' a1 w1 ⟨k, n, u4, u5, u6, u7, u8, u9, u10, u11, u12, u13, u14, u15, u16, u17, u18, u19, u20, u21, u22, u23, u24, u25, u26, u27, u28, u29, u30, u31, u32, u33, u34, u35, u36, rfl, rfl, hk, hg, hb⟩ hJ
    by_cases hlt : k < l.length
    · have g0 : ((k : Int) == (l.length : Int)) = false := by simp; omega
      obtain ⟨ad, rfl, c0, c1, c2, c3, c4, c5, c6, c7⟩ := at_e HR.out rfl k hlt
      replace c0 := cell_below hb c0
      replace c1 := cell_below hb c1
      replace c2 := cell_below hb c2
      replace c3 := cell_below hb c3
      replace c4 := cell_below hb c4
      replace c5 := cell_below hb c5
      replace c6 := cell_below hb c6
      replace c7 := cell_below hb c7
      have hx := HK.out l[k] (List.getElem_mem _)
      obtain ⟨x, hxe⟩ : ∃ x, l[k] = x := ⟨_, rfl⟩
      rw [hxe] at c0 c1 c2 c3 c4 c5 c6 c7 hx
      have HX := Sealed.mk hxe
      have HO := Sealed.mk hx
      clear hxe hx
      obtain ⟨b, hbx⟩ : ∃ b, entryB x = b := ⟨_, rfl⟩
      have HBX := Sealed.mk hbx
      clear hbx
      cases b with
      | false =>
        have hbad := Sealed.mk (bad_at hlt (.inl (by rw [HX.out]; exact HBX.out)))
        go_wp2_with fail
        refine wp_region_held_drew (S := fun w' => w'.cell? (ad.add (k * 8)) = some (.int .u32 x.f0.f0) ∧ w'.cell? ⟨(ad.add (k * 8)).block, (ad.add (k * 8)).off + 1, none⟩ = some (.string x.f0.f1) ∧ w'.cell? ⟨(ad.add (k * 8)).block, (ad.add (k * 8)).off + 2, none⟩ = some (.int .i64 x.f1) ∧ w'.cell? ⟨(ad.add (k * 8)).block, (ad.add (k * 8)).off + 3, none⟩ = some (.string x.f2) ∧ w'.cell? ⟨(ad.add (k * 8)).block, (ad.add (k * 8)).off + 4, none⟩ = some (.int .u64 x.f3) ∧ w'.cell? ⟨(ad.add (k * 8)).block, (ad.add (k * 8)).off + 5, none⟩ = some (.string x.f4) ∧ w'.cell? ⟨(ad.add (k * 8)).block, (ad.add (k * 8)).off + 6, none⟩ = some (.int .i64 x.f5) ∧ w'.cell? ⟨(ad.add (k * 8)).block, (ad.add (k * 8)).off + 7, none⟩ = some (.int .i64 x.f6) ∧ Below w.heap.size w w') (by kernel_rfl) (⟨c0, c1, c2, c3, c4, c5, c6, c7, hb.drew⟩) (fun hHeld => ?_)
        refine wpAnyH_take (i := 0) (oi := { dst := some 10, op := Op.move (Operand.tmp 0), type := 22, pos := "shard.go:50", after := #[], guard := none }) (v := ?vr5_0) rfl (by kernel_rfl) (by kernel_rfl) (by kernel_rfl) (fun _ _ _ h => h) (Or.inl ⟨by rfl, ?hyr5_0⟩) (by assumption) ?restr5_0
        case hyr5_0 => (intro wS hS; (try dsimp only at hS); go_simp; (try with_reducible rfl))
        (try simp only [Act.put, List.setIfInBounds_toArray, List.set_cons_zero, List.set_cons_succ])
        refine wpAnyH_take (i := 1) (oi := { dst := some 11, op := Op.move (Operand.tmp 3), type := 3, pos := "shard.go:50", after := #[], guard := none }) (v := ?vr5_1) rfl (by kernel_rfl) (by kernel_rfl) (by kernel_rfl) (fun _ _ _ h => h) (Or.inl ⟨by rfl, ?hyr5_1⟩) (by assumption) ?restr5_1
        case hyr5_1 => (intro wS hS; (try dsimp only at hS); go_simp; (try with_reducible rfl))
        (try simp only [Act.put, List.setIfInBounds_toArray, List.set_cons_zero, List.set_cons_succ])
        refine wpAnyH_take (i := 2) (oi := { dst := some 12, op := Op.indexAddr 22 (Operand.tmp 10) (Operand.tmp 11), type := 0, pos := "shard.go:50", after := #[{ on := 0, ground := Ground.data }, { on := 1, ground := Ground.data }], guard := none }) (v := ?vr5_2) rfl (by kernel_rfl) (by kernel_rfl) (by kernel_rfl) (fun _ _ _ h => h) (Or.inl ⟨by rfl, ?hyr5_2⟩) (by assumption) ?restr5_2
        case hyr5_2 => (intro wS hS; (try dsimp only at hS); go_simp; (try with_reducible rfl))
        (try simp only [Act.put, List.setIfInBounds_toArray, List.set_cons_zero, List.set_cons_succ])
        refine wpAnyH_take (i := 3) (oi := { dst := some 13, op := Op.load 28 (Operand.tmp 12), type := 28, pos := "shard.go:50", after := #[{ on := 2, ground := Ground.data }], guard := none }) (v := ?vr5_3) rfl (by kernel_rfl) (by kernel_rfl) (by kernel_rfl) (fun _ _ _ h => h) (Or.inl ⟨by rfl, ?hyr5_3⟩) (by assumption) ?restr5_3
        case hyr5_3 => (intro wS hS; (try dsimp only at hS); go_simp; (try with_reducible rfl))
        (try simp only [Act.put, List.setIfInBounds_toArray, List.set_cons_zero, List.set_cons_succ])
        refine wpAnyH_ready (rs := [4]) (by kernel_rfl) (by simp) (AllReadyH.cons (o := { dst := some 14, op := Op.call { callee := Callee.value (Operand.func 21), args := #[Operand.tmp 13], argTypes := #[28] }, type := 4, pos := "shard.go:50", after := #[{ on := 3, ground := Ground.data }], guard := none }) rfl (fun K hK => ?_) AllReadyH.nil)
        go_simp
        refine (sh_entry x HO.out false HBX.out _ (HT.out.of hHeld.2.2.2.2.2.2.2.2)).mono ?_
        rintro e wz ⟨rfl, hbz⟩
        refine hK.out _ _ ⟨cell_below hbz hHeld.1, cell_below hbz hHeld.2.1, cell_below hbz hHeld.2.2.1, cell_below hbz hHeld.2.2.2.1, cell_below hbz hHeld.2.2.2.2.1, cell_below hbz hHeld.2.2.2.2.2.1, cell_below hbz hHeld.2.2.2.2.2.2.1, cell_below hbz hHeld.2.2.2.2.2.2.2.1, below_next hHeld.2.2.2.2.2.2.2.2 hbz⟩ (fun hHeld' => ?_)
        clear hHeld hbz
        have hHeld := hHeld'
        clear hHeld'
        clear hK K
        (try simp only [Act.put, List.setIfInBounds_toArray, List.set_cons_zero, List.set_cons_succ])
        refine wpAnyH_take (i := 5) (oi := { dst := some 15, op := Op.unOp UnOp.not 4 (Operand.tmp 14), type := 4, pos := "shard.go:50", after := #[{ on := 4, ground := Ground.data }], guard := none }) (v := ?vr5_5) rfl (by kernel_rfl) (by kernel_rfl) (by kernel_rfl) (fun _ _ _ h => h) (Or.inl ⟨by rfl, ?hyr5_5⟩) (by assumption) ?restr5_5
        case hyr5_5 => (intro wS hS; (try dsimp only at hS); go_simp; (try with_reducible rfl))
        (try simp only [Act.put, List.setIfInBounds_toArray, List.set_cons_zero, List.set_cons_succ])
        refine wpAnyH_take (i := 6) (oi := { dst := some 16, op := Op.move (Operand.tmp 15), type := 4, pos := "shard.go:50", after := #[{ on := 5, ground := Ground.data }, { on := 4, ground := Ground.chain }], guard := none }) (v := ?vr5_6) rfl (by kernel_rfl) (by kernel_rfl) (by kernel_rfl) (fun _ _ _ h => h) (Or.inl ⟨by rfl, ?hyr5_6⟩) (by assumption) ?restr5_6
        case hyr5_6 => (intro wS hS; (try dsimp only at hS); go_simp; (try with_reducible rfl))
        (try simp only [Act.put, List.setIfInBounds_toArray, List.set_cons_zero, List.set_cons_succ])
        refine wpAnyH_take (i := 7) (oi := { dst := some 17, op := Op.move (Operand.tmp 3), type := 3, pos := "shard.go:50", after := #[{ on := 6, ground := Ground.guard }], guard := some (6, false) }) (v := undef) rfl (by kernel_rfl) (by kernel_rfl) (by kernel_rfl) (fun _ _ _ h => h) (Or.inr ⟨by rfl, rfl⟩) (by assumption) ?_
        (try simp only [Act.put, List.setIfInBounds_toArray, List.set_cons_zero, List.set_cons_succ])
        refine wpAnyH_take (i := 8) (oi := { dst := some 18, op := Op.binOp BinOp.gtr 3 (Operand.tmp 17) (Operand.const (Value.int IntKind.i64 0)) 3, type := 4, pos := "shard.go:50", after := #[{ on := 7, ground := Ground.data }, { on := 6, ground := Ground.guard }], guard := some (6, false) }) (v := undef) rfl (by kernel_rfl) (by kernel_rfl) (by kernel_rfl) (fun _ _ _ h => h) (Or.inr ⟨by rfl, rfl⟩) (by assumption) ?_
        (try simp only [Act.put, List.setIfInBounds_toArray, List.set_cons_zero, List.set_cons_succ])
        refine wpAnyH_take (i := 9) (oi := { dst := some 19, op := Op.move (Operand.tmp 18), type := 4, pos := "shard.go:50", after := #[{ on := 8, ground := Ground.data }, { on := 6, ground := Ground.chain }, { on := 6, ground := Ground.guard }], guard := some (6, false) }) (v := undef) rfl (by kernel_rfl) (by kernel_rfl) (by kernel_rfl) (fun _ _ _ h => h) (Or.inr ⟨by rfl, rfl⟩) (by assumption) ?_
        (try simp only [Act.put, List.setIfInBounds_toArray, List.set_cons_zero, List.set_cons_succ])
        refine wpAnyH_take (i := 10) (oi := { dst := some 20, op := Op.move (Operand.tmp 0), type := 22, pos := "shard.go:50", after := #[{ on := 9, ground := Ground.guard }], guard := some (9, true) }) (v := undef) rfl (by kernel_rfl) (by kernel_rfl) (by kernel_rfl) (fun _ _ _ h => h) (Or.inr ⟨by rfl, rfl⟩) (by assumption) ?_
        (try simp only [Act.put, List.setIfInBounds_toArray, List.set_cons_zero, List.set_cons_succ])
        refine wpAnyH_take (i := 11) (oi := { dst := some 21, op := Op.move (Operand.tmp 3), type := 3, pos := "shard.go:50", after := #[{ on := 9, ground := Ground.guard }], guard := some (9, true) }) (v := undef) rfl (by kernel_rfl) (by kernel_rfl) (by kernel_rfl) (fun _ _ _ h => h) (Or.inr ⟨by rfl, rfl⟩) (by assumption) ?_
        (try simp only [Act.put, List.setIfInBounds_toArray, List.set_cons_zero, List.set_cons_succ])
        refine wpAnyH_take (i := 12) (oi := { dst := some 22, op := Op.binOp BinOp.sub 3 (Operand.tmp 21) (Operand.const (Value.int IntKind.i64 1)) 3, type := 3, pos := "shard.go:50", after := #[{ on := 11, ground := Ground.data }, { on := 9, ground := Ground.guard }], guard := some (9, true) }) (v := undef) rfl (by kernel_rfl) (by kernel_rfl) (by kernel_rfl) (fun _ _ _ h => h) (Or.inr ⟨by rfl, rfl⟩) (by assumption) ?_
        (try simp only [Act.put, List.setIfInBounds_toArray, List.set_cons_zero, List.set_cons_succ])
        refine wpAnyH_take (i := 13) (oi := { dst := some 23, op := Op.indexAddr 22 (Operand.tmp 20) (Operand.tmp 22), type := 0, pos := "shard.go:50", after := #[{ on := 10, ground := Ground.data }, { on := 12, ground := Ground.data }, { on := 9, ground := Ground.guard }], guard := some (9, true) }) (v := undef) rfl (by kernel_rfl) (by kernel_rfl) (by kernel_rfl) (fun _ _ _ h => h) (Or.inr ⟨by rfl, rfl⟩) (by assumption) ?_
        (try simp only [Act.put, List.setIfInBounds_toArray, List.set_cons_zero, List.set_cons_succ])
        refine wpAnyH_take (i := 14) (oi := { dst := some 24, op := Op.fieldAddr 28 (Operand.tmp 23) 0, type := 0, pos := "shard.go:50", after := #[{ on := 13, ground := Ground.data }, { on := 9, ground := Ground.guard }], guard := some (9, true) }) (v := undef) rfl (by kernel_rfl) (by kernel_rfl) (by kernel_rfl) (fun _ _ _ h => h) (Or.inr ⟨by rfl, rfl⟩) (by assumption) ?_
        (try simp only [Act.put, List.setIfInBounds_toArray, List.set_cons_zero, List.set_cons_succ])
        refine wpAnyH_take (i := 15) (oi := { dst := some 25, op := Op.load 25 (Operand.tmp 24), type := 25, pos := "shard.go:50", after := #[{ on := 14, ground := Ground.data }, { on := 9, ground := Ground.guard }], guard := some (9, true) }) (v := undef) rfl (by kernel_rfl) (by kernel_rfl) (by kernel_rfl) (fun _ _ _ h => h) (Or.inr ⟨by rfl, rfl⟩) (by assumption) ?_
        (try simp only [Act.put, List.setIfInBounds_toArray, List.set_cons_zero, List.set_cons_succ])
        refine wpAnyH_take (i := 16) (oi := { dst := some 26, op := Op.move (Operand.tmp 0), type := 22, pos := "shard.go:50", after := #[{ on := 9, ground := Ground.guard }], guard := some (9, true) }) (v := undef) rfl (by kernel_rfl) (by kernel_rfl) (by kernel_rfl) (fun _ _ _ h => h) (Or.inr ⟨by rfl, rfl⟩) (by assumption) ?_
        (try simp only [Act.put, List.setIfInBounds_toArray, List.set_cons_zero, List.set_cons_succ])
        refine wpAnyH_take (i := 17) (oi := { dst := some 27, op := Op.move (Operand.tmp 3), type := 3, pos := "shard.go:50", after := #[{ on := 9, ground := Ground.guard }], guard := some (9, true) }) (v := undef) rfl (by kernel_rfl) (by kernel_rfl) (by kernel_rfl) (fun _ _ _ h => h) (Or.inr ⟨by rfl, rfl⟩) (by assumption) ?_
        (try simp only [Act.put, List.setIfInBounds_toArray, List.set_cons_zero, List.set_cons_succ])
        refine wpAnyH_take (i := 18) (oi := { dst := some 28, op := Op.indexAddr 22 (Operand.tmp 26) (Operand.tmp 27), type := 0, pos := "shard.go:50", after := #[{ on := 16, ground := Ground.data }, { on := 17, ground := Ground.data }, { on := 9, ground := Ground.guard }], guard := some (9, true) }) (v := undef) rfl (by kernel_rfl) (by kernel_rfl) (by kernel_rfl) (fun _ _ _ h => h) (Or.inr ⟨by rfl, rfl⟩) (by assumption) ?_
        (try simp only [Act.put, List.setIfInBounds_toArray, List.set_cons_zero, List.set_cons_succ])
        refine wpAnyH_take (i := 19) (oi := { dst := some 29, op := Op.fieldAddr 28 (Operand.tmp 28) 0, type := 0, pos := "shard.go:50", after := #[{ on := 18, ground := Ground.data }, { on := 9, ground := Ground.guard }], guard := some (9, true) }) (v := undef) rfl (by kernel_rfl) (by kernel_rfl) (by kernel_rfl) (fun _ _ _ h => h) (Or.inr ⟨by rfl, rfl⟩) (by assumption) ?_
        (try simp only [Act.put, List.setIfInBounds_toArray, List.set_cons_zero, List.set_cons_succ])
        refine wpAnyH_take (i := 20) (oi := { dst := some 30, op := Op.load 25 (Operand.tmp 29), type := 25, pos := "shard.go:50", after := #[{ on := 19, ground := Ground.data }, { on := 9, ground := Ground.guard }], guard := some (9, true) }) (v := undef) rfl (by kernel_rfl) (by kernel_rfl) (by kernel_rfl) (fun _ _ _ h => h) (Or.inr ⟨by rfl, rfl⟩) (by assumption) ?_
        (try simp only [Act.put, List.setIfInBounds_toArray, List.set_cons_zero, List.set_cons_succ])
        refine wpAnyH_take (i := 21) (oi := { dst := some 31, op := Op.call { callee := Callee.value (Operand.func 51), args := #[Operand.tmp 25, Operand.tmp 30], argTypes := #[25, 25] }, type := 3, pos := "shard.go:50", after := #[{ on := 15, ground := Ground.data }, { on := 20, ground := Ground.data }, { on := 9, ground := Ground.chain }, { on := 9, ground := Ground.guard }], guard := some (9, true) }) (v := undef) rfl (by kernel_rfl) (by kernel_rfl) (by kernel_rfl) (fun _ _ _ h => h) (Or.inr ⟨by rfl, rfl⟩) (by assumption) ?_
        (try simp only [Act.put, List.setIfInBounds_toArray, List.set_cons_zero, List.set_cons_succ])
        refine wpAnyH_take (i := 22) (oi := { dst := some 32, op := Op.binOp BinOp.geq 3 (Operand.tmp 31) (Operand.const (Value.int IntKind.i64 0)) 3, type := 4, pos := "shard.go:50", after := #[{ on := 21, ground := Ground.data }, { on := 9, ground := Ground.guard }], guard := some (9, true) }) (v := undef) rfl (by kernel_rfl) (by kernel_rfl) (by kernel_rfl) (fun _ _ _ h => h) (Or.inr ⟨by rfl, rfl⟩) (by assumption) ?_
        (try simp only [Act.put, List.setIfInBounds_toArray, List.set_cons_zero, List.set_cons_succ])
        refine wpAnyH_take (i := 23) (oi := { dst := some 33, op := Op.pick (Operand.tmp 19) (Operand.tmp 32) (Operand.const (Value.bool false)), type := 4, pos := "shard.go:50", after := #[{ on := 9, ground := Ground.data }, { on := 22, ground := Ground.data }, { on := 6, ground := Ground.guard }], guard := some (6, false) }) (v := undef) rfl (by kernel_rfl) (by kernel_rfl) (by kernel_rfl) (fun _ _ _ h => h) (Or.inr ⟨by rfl, rfl⟩) (by assumption) ?_
        (try simp only [Act.put, List.setIfInBounds_toArray, List.set_cons_zero, List.set_cons_succ])
        refine wpAnyH_take (i := 24) (oi := { dst := some 34, op := Op.pick (Operand.tmp 16) (Operand.const (Value.bool true)) (Operand.tmp 33), type := 4, pos := "shard.go:50", after := #[{ on := 6, ground := Ground.data }, { on := 23, ground := Ground.data }], guard := none }) (v := ?vr5_24) rfl (by kernel_rfl) (by kernel_rfl) (by kernel_rfl) (fun _ _ _ h => h) (Or.inl ⟨by rfl, ?hyr5_24⟩) (by assumption) ?restr5_24
        case hyr5_24 => (intro wS hS; (try dsimp only at hS); go_simp; (try with_reducible rfl))
        (try simp only [Act.put, List.setIfInBounds_toArray, List.set_cons_zero, List.set_cons_succ])
        refine wpAnyH_done (by kernel_rfl) ?_ _
        go_wp2
        simp only [Exit.jump]
        go_ret
        exact ⟨by rw [hbad.out]; rfl, hHeld.2.2.2.2.2.2.2.2⟩
      | true =>
        rcases Nat.eq_zero_or_pos k with h0 | h0
        · have hg' := Sealed.mk (good_next hg.out hlt (by rw [HX.out]; exact HBX.out) (fun h => absurd h (by omega)))
          have hgt : decide (0 < (k : Int)) = false := by simp; omega
          clear h0
          go_wp2_with fail
          refine wp_region_held_drew (S := fun w' => w'.cell? (ad.add (k * 8)) = some (.int .u32 x.f0.f0) ∧ w'.cell? ⟨(ad.add (k * 8)).block, (ad.add (k * 8)).off + 1, none⟩ = some (.string x.f0.f1) ∧ w'.cell? ⟨(ad.add (k * 8)).block, (ad.add (k * 8)).off + 2, none⟩ = some (.int .i64 x.f1) ∧ w'.cell? ⟨(ad.add (k * 8)).block, (ad.add (k * 8)).off + 3, none⟩ = some (.string x.f2) ∧ w'.cell? ⟨(ad.add (k * 8)).block, (ad.add (k * 8)).off + 4, none⟩ = some (.int .u64 x.f3) ∧ w'.cell? ⟨(ad.add (k * 8)).block, (ad.add (k * 8)).off + 5, none⟩ = some (.string x.f4) ∧ w'.cell? ⟨(ad.add (k * 8)).block, (ad.add (k * 8)).off + 6, none⟩ = some (.int .i64 x.f5) ∧ w'.cell? ⟨(ad.add (k * 8)).block, (ad.add (k * 8)).off + 7, none⟩ = some (.int .i64 x.f6) ∧ Below w.heap.size w w') (by kernel_rfl) (⟨c0, c1, c2, c3, c4, c5, c6, c7, hb.drew⟩) (fun hHeld => ?_)
          refine wpAnyH_take (i := 0) (oi := { dst := some 10, op := Op.move (Operand.tmp 0), type := 22, pos := "shard.go:50", after := #[], guard := none }) (v := ?vr6_0) rfl (by kernel_rfl) (by kernel_rfl) (by kernel_rfl) (fun _ _ _ h => h) (Or.inl ⟨by rfl, ?hyr6_0⟩) (by assumption) ?restr6_0
          case hyr6_0 => (intro wS hS; (try dsimp only at hS); go_simp; (try with_reducible rfl))
          (try simp only [Act.put, List.setIfInBounds_toArray, List.set_cons_zero, List.set_cons_succ])
          refine wpAnyH_take (i := 1) (oi := { dst := some 11, op := Op.move (Operand.tmp 3), type := 3, pos := "shard.go:50", after := #[], guard := none }) (v := ?vr6_1) rfl (by kernel_rfl) (by kernel_rfl) (by kernel_rfl) (fun _ _ _ h => h) (Or.inl ⟨by rfl, ?hyr6_1⟩) (by assumption) ?restr6_1
          case hyr6_1 => (intro wS hS; (try dsimp only at hS); go_simp; (try with_reducible rfl))
          (try simp only [Act.put, List.setIfInBounds_toArray, List.set_cons_zero, List.set_cons_succ])
          refine wpAnyH_take (i := 2) (oi := { dst := some 12, op := Op.indexAddr 22 (Operand.tmp 10) (Operand.tmp 11), type := 0, pos := "shard.go:50", after := #[{ on := 0, ground := Ground.data }, { on := 1, ground := Ground.data }], guard := none }) (v := ?vr6_2) rfl (by kernel_rfl) (by kernel_rfl) (by kernel_rfl) (fun _ _ _ h => h) (Or.inl ⟨by rfl, ?hyr6_2⟩) (by assumption) ?restr6_2
          case hyr6_2 => (intro wS hS; (try dsimp only at hS); go_simp; (try with_reducible rfl))
          (try simp only [Act.put, List.setIfInBounds_toArray, List.set_cons_zero, List.set_cons_succ])
          refine wpAnyH_take (i := 3) (oi := { dst := some 13, op := Op.load 28 (Operand.tmp 12), type := 28, pos := "shard.go:50", after := #[{ on := 2, ground := Ground.data }], guard := none }) (v := ?vr6_3) rfl (by kernel_rfl) (by kernel_rfl) (by kernel_rfl) (fun _ _ _ h => h) (Or.inl ⟨by rfl, ?hyr6_3⟩) (by assumption) ?restr6_3
          case hyr6_3 => (intro wS hS; (try dsimp only at hS); go_simp; (try with_reducible rfl))
          (try simp only [Act.put, List.setIfInBounds_toArray, List.set_cons_zero, List.set_cons_succ])
          refine wpAnyH_ready (rs := [4]) (by kernel_rfl) (by simp) (AllReadyH.cons (o := { dst := some 14, op := Op.call { callee := Callee.value (Operand.func 21), args := #[Operand.tmp 13], argTypes := #[28] }, type := 4, pos := "shard.go:50", after := #[{ on := 3, ground := Ground.data }], guard := none }) rfl (fun K hK => ?_) AllReadyH.nil)
          go_simp
          refine (sh_entry x HO.out true HBX.out _ (HT.out.of hHeld.2.2.2.2.2.2.2.2)).mono ?_
          rintro e wz ⟨rfl, hbz⟩
          refine hK.out _ _ ⟨cell_below hbz hHeld.1, cell_below hbz hHeld.2.1, cell_below hbz hHeld.2.2.1, cell_below hbz hHeld.2.2.2.1, cell_below hbz hHeld.2.2.2.2.1, cell_below hbz hHeld.2.2.2.2.2.1, cell_below hbz hHeld.2.2.2.2.2.2.1, cell_below hbz hHeld.2.2.2.2.2.2.2.1, below_next hHeld.2.2.2.2.2.2.2.2 hbz⟩ (fun hHeld' => ?_)
          clear hHeld hbz
          have hHeld := hHeld'
          clear hHeld'
          clear hK K
          (try simp only [Act.put, List.setIfInBounds_toArray, List.set_cons_zero, List.set_cons_succ])
          refine wpAnyH_take (i := 5) (oi := { dst := some 15, op := Op.unOp UnOp.not 4 (Operand.tmp 14), type := 4, pos := "shard.go:50", after := #[{ on := 4, ground := Ground.data }], guard := none }) (v := ?vr6_5) rfl (by kernel_rfl) (by kernel_rfl) (by kernel_rfl) (fun _ _ _ h => h) (Or.inl ⟨by rfl, ?hyr6_5⟩) (by assumption) ?restr6_5
          case hyr6_5 => (intro wS hS; (try dsimp only at hS); go_simp; (try with_reducible rfl))
          (try simp only [Act.put, List.setIfInBounds_toArray, List.set_cons_zero, List.set_cons_succ])
          refine wpAnyH_take (i := 6) (oi := { dst := some 16, op := Op.move (Operand.tmp 15), type := 4, pos := "shard.go:50", after := #[{ on := 5, ground := Ground.data }, { on := 4, ground := Ground.chain }], guard := none }) (v := ?vr6_6) rfl (by kernel_rfl) (by kernel_rfl) (by kernel_rfl) (fun _ _ _ h => h) (Or.inl ⟨by rfl, ?hyr6_6⟩) (by assumption) ?restr6_6
          case hyr6_6 => (intro wS hS; (try dsimp only at hS); go_simp; (try with_reducible rfl))
          (try simp only [Act.put, List.setIfInBounds_toArray, List.set_cons_zero, List.set_cons_succ])
          refine wpAnyH_take (i := 7) (oi := { dst := some 17, op := Op.move (Operand.tmp 3), type := 3, pos := "shard.go:50", after := #[{ on := 6, ground := Ground.guard }], guard := some (6, false) }) (v := ?vr6_7) rfl (by kernel_rfl) (by kernel_rfl) (by kernel_rfl) (fun _ _ _ h => h) (Or.inl ⟨by rfl, ?hyr6_7⟩) (by assumption) ?restr6_7
          case hyr6_7 => (intro wS hS; (try dsimp only at hS); go_simp; (try with_reducible rfl))
          (try simp only [Act.put, List.setIfInBounds_toArray, List.set_cons_zero, List.set_cons_succ])
          refine wpAnyH_take (i := 8) (oi := { dst := some 18, op := Op.binOp BinOp.gtr 3 (Operand.tmp 17) (Operand.const (Value.int IntKind.i64 0)) 3, type := 4, pos := "shard.go:50", after := #[{ on := 7, ground := Ground.data }, { on := 6, ground := Ground.guard }], guard := some (6, false) }) (v := .bool false) rfl (by kernel_rfl) (by kernel_rfl) (by kernel_rfl) (fun _ _ _ h => h) (Or.inl ⟨by rfl, ?hyr6_8⟩) (by assumption) ?restr6_8
          case hyr6_8 => (intro wS hS; (try dsimp only at hS); rw [← hgt]; go_simp; (try with_reducible rfl))
          (try simp only [Act.put, List.setIfInBounds_toArray, List.set_cons_zero, List.set_cons_succ])
          refine wpAnyH_take (i := 9) (oi := { dst := some 19, op := Op.move (Operand.tmp 18), type := 4, pos := "shard.go:50", after := #[{ on := 8, ground := Ground.data }, { on := 6, ground := Ground.chain }, { on := 6, ground := Ground.guard }], guard := some (6, false) }) (v := ?vr6_9) rfl (by kernel_rfl) (by kernel_rfl) (by kernel_rfl) (fun _ _ _ h => h) (Or.inl ⟨by rfl, ?hyr6_9⟩) (by assumption) ?restr6_9
          case hyr6_9 => (intro wS hS; (try dsimp only at hS); go_simp; (try with_reducible rfl))
          (try simp only [Act.put, List.setIfInBounds_toArray, List.set_cons_zero, List.set_cons_succ])
          refine wpAnyH_take (i := 10) (oi := { dst := some 20, op := Op.move (Operand.tmp 0), type := 22, pos := "shard.go:50", after := #[{ on := 9, ground := Ground.guard }], guard := some (9, true) }) (v := undef) rfl (by kernel_rfl) (by kernel_rfl) (by kernel_rfl) (fun _ _ _ h => h) (Or.inr ⟨by rfl, rfl⟩) (by assumption) ?_
          (try simp only [Act.put, List.setIfInBounds_toArray, List.set_cons_zero, List.set_cons_succ])
          refine wpAnyH_take (i := 11) (oi := { dst := some 21, op := Op.move (Operand.tmp 3), type := 3, pos := "shard.go:50", after := #[{ on := 9, ground := Ground.guard }], guard := some (9, true) }) (v := undef) rfl (by kernel_rfl) (by kernel_rfl) (by kernel_rfl) (fun _ _ _ h => h) (Or.inr ⟨by rfl, rfl⟩) (by assumption) ?_
          (try simp only [Act.put, List.setIfInBounds_toArray, List.set_cons_zero, List.set_cons_succ])
          refine wpAnyH_take (i := 12) (oi := { dst := some 22, op := Op.binOp BinOp.sub 3 (Operand.tmp 21) (Operand.const (Value.int IntKind.i64 1)) 3, type := 3, pos := "shard.go:50", after := #[{ on := 11, ground := Ground.data }, { on := 9, ground := Ground.guard }], guard := some (9, true) }) (v := undef) rfl (by kernel_rfl) (by kernel_rfl) (by kernel_rfl) (fun _ _ _ h => h) (Or.inr ⟨by rfl, rfl⟩) (by assumption) ?_
          (try simp only [Act.put, List.setIfInBounds_toArray, List.set_cons_zero, List.set_cons_succ])
          refine wpAnyH_take (i := 13) (oi := { dst := some 23, op := Op.indexAddr 22 (Operand.tmp 20) (Operand.tmp 22), type := 0, pos := "shard.go:50", after := #[{ on := 10, ground := Ground.data }, { on := 12, ground := Ground.data }, { on := 9, ground := Ground.guard }], guard := some (9, true) }) (v := undef) rfl (by kernel_rfl) (by kernel_rfl) (by kernel_rfl) (fun _ _ _ h => h) (Or.inr ⟨by rfl, rfl⟩) (by assumption) ?_
          (try simp only [Act.put, List.setIfInBounds_toArray, List.set_cons_zero, List.set_cons_succ])
          refine wpAnyH_take (i := 14) (oi := { dst := some 24, op := Op.fieldAddr 28 (Operand.tmp 23) 0, type := 0, pos := "shard.go:50", after := #[{ on := 13, ground := Ground.data }, { on := 9, ground := Ground.guard }], guard := some (9, true) }) (v := undef) rfl (by kernel_rfl) (by kernel_rfl) (by kernel_rfl) (fun _ _ _ h => h) (Or.inr ⟨by rfl, rfl⟩) (by assumption) ?_
          (try simp only [Act.put, List.setIfInBounds_toArray, List.set_cons_zero, List.set_cons_succ])
          refine wpAnyH_take (i := 15) (oi := { dst := some 25, op := Op.load 25 (Operand.tmp 24), type := 25, pos := "shard.go:50", after := #[{ on := 14, ground := Ground.data }, { on := 9, ground := Ground.guard }], guard := some (9, true) }) (v := undef) rfl (by kernel_rfl) (by kernel_rfl) (by kernel_rfl) (fun _ _ _ h => h) (Or.inr ⟨by rfl, rfl⟩) (by assumption) ?_
          (try simp only [Act.put, List.setIfInBounds_toArray, List.set_cons_zero, List.set_cons_succ])
          refine wpAnyH_take (i := 16) (oi := { dst := some 26, op := Op.move (Operand.tmp 0), type := 22, pos := "shard.go:50", after := #[{ on := 9, ground := Ground.guard }], guard := some (9, true) }) (v := undef) rfl (by kernel_rfl) (by kernel_rfl) (by kernel_rfl) (fun _ _ _ h => h) (Or.inr ⟨by rfl, rfl⟩) (by assumption) ?_
          (try simp only [Act.put, List.setIfInBounds_toArray, List.set_cons_zero, List.set_cons_succ])
          refine wpAnyH_take (i := 17) (oi := { dst := some 27, op := Op.move (Operand.tmp 3), type := 3, pos := "shard.go:50", after := #[{ on := 9, ground := Ground.guard }], guard := some (9, true) }) (v := undef) rfl (by kernel_rfl) (by kernel_rfl) (by kernel_rfl) (fun _ _ _ h => h) (Or.inr ⟨by rfl, rfl⟩) (by assumption) ?_
          (try simp only [Act.put, List.setIfInBounds_toArray, List.set_cons_zero, List.set_cons_succ])
          refine wpAnyH_take (i := 18) (oi := { dst := some 28, op := Op.indexAddr 22 (Operand.tmp 26) (Operand.tmp 27), type := 0, pos := "shard.go:50", after := #[{ on := 16, ground := Ground.data }, { on := 17, ground := Ground.data }, { on := 9, ground := Ground.guard }], guard := some (9, true) }) (v := undef) rfl (by kernel_rfl) (by kernel_rfl) (by kernel_rfl) (fun _ _ _ h => h) (Or.inr ⟨by rfl, rfl⟩) (by assumption) ?_
          (try simp only [Act.put, List.setIfInBounds_toArray, List.set_cons_zero, List.set_cons_succ])
          refine wpAnyH_take (i := 19) (oi := { dst := some 29, op := Op.fieldAddr 28 (Operand.tmp 28) 0, type := 0, pos := "shard.go:50", after := #[{ on := 18, ground := Ground.data }, { on := 9, ground := Ground.guard }], guard := some (9, true) }) (v := undef) rfl (by kernel_rfl) (by kernel_rfl) (by kernel_rfl) (fun _ _ _ h => h) (Or.inr ⟨by rfl, rfl⟩) (by assumption) ?_
          (try simp only [Act.put, List.setIfInBounds_toArray, List.set_cons_zero, List.set_cons_succ])
          refine wpAnyH_take (i := 20) (oi := { dst := some 30, op := Op.load 25 (Operand.tmp 29), type := 25, pos := "shard.go:50", after := #[{ on := 19, ground := Ground.data }, { on := 9, ground := Ground.guard }], guard := some (9, true) }) (v := undef) rfl (by kernel_rfl) (by kernel_rfl) (by kernel_rfl) (fun _ _ _ h => h) (Or.inr ⟨by rfl, rfl⟩) (by assumption) ?_
          (try simp only [Act.put, List.setIfInBounds_toArray, List.set_cons_zero, List.set_cons_succ])
          refine wpAnyH_take (i := 21) (oi := { dst := some 31, op := Op.call { callee := Callee.value (Operand.func 51), args := #[Operand.tmp 25, Operand.tmp 30], argTypes := #[25, 25] }, type := 3, pos := "shard.go:50", after := #[{ on := 15, ground := Ground.data }, { on := 20, ground := Ground.data }, { on := 9, ground := Ground.chain }, { on := 9, ground := Ground.guard }], guard := some (9, true) }) (v := undef) rfl (by kernel_rfl) (by kernel_rfl) (by kernel_rfl) (fun _ _ _ h => h) (Or.inr ⟨by rfl, rfl⟩) (by assumption) ?_
          (try simp only [Act.put, List.setIfInBounds_toArray, List.set_cons_zero, List.set_cons_succ])
          refine wpAnyH_take (i := 22) (oi := { dst := some 32, op := Op.binOp BinOp.geq 3 (Operand.tmp 31) (Operand.const (Value.int IntKind.i64 0)) 3, type := 4, pos := "shard.go:50", after := #[{ on := 21, ground := Ground.data }, { on := 9, ground := Ground.guard }], guard := some (9, true) }) (v := undef) rfl (by kernel_rfl) (by kernel_rfl) (by kernel_rfl) (fun _ _ _ h => h) (Or.inr ⟨by rfl, rfl⟩) (by assumption) ?_
          (try simp only [Act.put, List.setIfInBounds_toArray, List.set_cons_zero, List.set_cons_succ])
          refine wpAnyH_take (i := 23) (oi := { dst := some 33, op := Op.pick (Operand.tmp 19) (Operand.tmp 32) (Operand.const (Value.bool false)), type := 4, pos := "shard.go:50", after := #[{ on := 9, ground := Ground.data }, { on := 22, ground := Ground.data }, { on := 6, ground := Ground.guard }], guard := some (6, false) }) (v := ?vr6_23) rfl (by kernel_rfl) (by kernel_rfl) (by kernel_rfl) (fun _ _ _ h => h) (Or.inl ⟨by rfl, ?hyr6_23⟩) (by assumption) ?restr6_23
          case hyr6_23 => (intro wS hS; (try dsimp only at hS); go_simp; (try with_reducible rfl))
          (try simp only [Act.put, List.setIfInBounds_toArray, List.set_cons_zero, List.set_cons_succ])
          refine wpAnyH_take (i := 24) (oi := { dst := some 34, op := Op.pick (Operand.tmp 16) (Operand.const (Value.bool true)) (Operand.tmp 33), type := 4, pos := "shard.go:50", after := #[{ on := 6, ground := Ground.data }, { on := 23, ground := Ground.data }], guard := none }) (v := ?vr6_24) rfl (by kernel_rfl) (by kernel_rfl) (by kernel_rfl) (fun _ _ _ h => h) (Or.inl ⟨by rfl, ?hyr6_24⟩) (by assumption) ?restr6_24
          case hyr6_24 => (intro wS hS; (try dsimp only at hS); go_simp; (try with_reducible rfl))
          (try simp only [Act.put, List.setIfInBounds_toArray, List.set_cons_zero, List.set_cons_succ])
          refine wpAnyH_done (by kernel_rfl) ?_ _
          go_wp2
          go_step3
          refine ⟨rfl, hJ _ _ ⟨k + 1, _, _, _, _, _, _, _, _, _, _, _, _, _, _, _, _, _, _, _, _, _, _, _, _, _, _, _, _, _, _, _, _, _, _, rfl, by omega, by omega, hg', hHeld.2.2.2.2.2.2.2.2⟩ ?_⟩
          simp [slotInt]
          omega
        · have hkp : k - 1 < l.length := by omega
          obtain ⟨ad', had, p0, p1, _⟩ := at_e HR.out rfl (k - 1) hkp
          injection had with had
          subst had
          replace p0 := cell_below hb p0
          replace p1 := cell_below hb p1
          obtain ⟨p, hp⟩ : ∃ p, k - 1 = p := ⟨_, rfl⟩
          have ho : ∃ o, ordK (l[k - 1]).f0 x.f0 = o := ⟨_, rfl⟩
          obtain ⟨o, ho⟩ := ho
          have hthree : o = -1 ∨ o = 0 ∨ o = 1 := by rw [← ho]; exact ordK_three _ _
          have hord : o < 0 → ∀ h0 : 0 < k, ordK (l[k - 1]'(by omega)).f0 l[k].f0 < 0 := by intro h _; rw [HX.out, ho]; exact h
          have hord2 : 0 ≤ o → ∃ h0 : 0 < k, 0 ≤ ordK (l[k - 1]'(by omega)).f0 l[k].f0 := by intro h; exact ⟨h0, by rw [HX.out, ho]; exact h⟩
          have hw : IntKind.wrap .i64 ((k : Int) - 1) = (p : Int) := (IntWalk.i64_in _ (by omega)).trans (by omega)
          have hpl : p < l.length := by omega
          have hgt : decide (0 < (k : Int)) = true := by simp; omega
          obtain ⟨y, hy⟩ : ∃ y, (l[k - 1]).f0 = y := ⟨_, rfl⟩
          rw [hy] at p0 p1 ho
          rw [hp] at p0 p1
          have HO2 := Sealed.mk ho
          have HP := Sealed.mk hp
          have H0 := Sealed.mk h0
          have HD := Sealed.mk hord
          have HD2 := Sealed.mk hord2
          clear ho hy hord hord2 hp h0
          have hcase : o = -1 ∨ 0 ≤ o := by omega
          clear hthree
          rcases hcase with ho1 | ho1
          · subst ho1
            have hg' := Sealed.mk (good_next hg.out hlt (by rw [HX.out]; exact HBX.out) (HD.out (by omega)))
            clear HD HD2
            go_wp2_with fail
            refine wp_region_held_drew (S := fun w' => w'.cell? (ad.add (k * 8)) = some (.int .u32 x.f0.f0) ∧ w'.cell? ⟨(ad.add (k * 8)).block, (ad.add (k * 8)).off + 1, none⟩ = some (.string x.f0.f1) ∧ w'.cell? ⟨(ad.add (k * 8)).block, (ad.add (k * 8)).off + 2, none⟩ = some (.int .i64 x.f1) ∧ w'.cell? ⟨(ad.add (k * 8)).block, (ad.add (k * 8)).off + 3, none⟩ = some (.string x.f2) ∧ w'.cell? ⟨(ad.add (k * 8)).block, (ad.add (k * 8)).off + 4, none⟩ = some (.int .u64 x.f3) ∧ w'.cell? ⟨(ad.add (k * 8)).block, (ad.add (k * 8)).off + 5, none⟩ = some (.string x.f4) ∧ w'.cell? ⟨(ad.add (k * 8)).block, (ad.add (k * 8)).off + 6, none⟩ = some (.int .i64 x.f5) ∧ w'.cell? ⟨(ad.add (k * 8)).block, (ad.add (k * 8)).off + 7, none⟩ = some (.int .i64 x.f6) ∧ w'.cell? (ad.add (p * 8)) = some (.int .u32 y.f0) ∧ w'.cell? ⟨(ad.add (p * 8)).block, (ad.add (p * 8)).off + 1, none⟩ = some (.string y.f1) ∧ Below w.heap.size w w') (by kernel_rfl) (⟨c0, c1, c2, c3, c4, c5, c6, c7, p0, p1, hb.drew⟩) (fun hHeld => ?_)
            refine wpAnyH_take (i := 0) (oi := { dst := some 10, op := Op.move (Operand.tmp 0), type := 22, pos := "shard.go:50", after := #[], guard := none }) (v := ?vr7_0) rfl (by kernel_rfl) (by kernel_rfl) (by kernel_rfl) (fun _ _ _ h => h) (Or.inl ⟨by rfl, ?hyr7_0⟩) (by assumption) ?restr7_0
            case hyr7_0 => (intro wS hS; (try dsimp only at hS); go_simp; (try with_reducible rfl))
            (try simp only [Act.put, List.setIfInBounds_toArray, List.set_cons_zero, List.set_cons_succ])
            refine wpAnyH_take (i := 1) (oi := { dst := some 11, op := Op.move (Operand.tmp 3), type := 3, pos := "shard.go:50", after := #[], guard := none }) (v := ?vr7_1) rfl (by kernel_rfl) (by kernel_rfl) (by kernel_rfl) (fun _ _ _ h => h) (Or.inl ⟨by rfl, ?hyr7_1⟩) (by assumption) ?restr7_1
            case hyr7_1 => (intro wS hS; (try dsimp only at hS); go_simp; (try with_reducible rfl))
            (try simp only [Act.put, List.setIfInBounds_toArray, List.set_cons_zero, List.set_cons_succ])
            refine wpAnyH_take (i := 2) (oi := { dst := some 12, op := Op.indexAddr 22 (Operand.tmp 10) (Operand.tmp 11), type := 0, pos := "shard.go:50", after := #[{ on := 0, ground := Ground.data }, { on := 1, ground := Ground.data }], guard := none }) (v := ?vr7_2) rfl (by kernel_rfl) (by kernel_rfl) (by kernel_rfl) (fun _ _ _ h => h) (Or.inl ⟨by rfl, ?hyr7_2⟩) (by assumption) ?restr7_2
            case hyr7_2 => (intro wS hS; (try dsimp only at hS); go_simp; (try with_reducible rfl))
            (try simp only [Act.put, List.setIfInBounds_toArray, List.set_cons_zero, List.set_cons_succ])
            refine wpAnyH_take (i := 3) (oi := { dst := some 13, op := Op.load 28 (Operand.tmp 12), type := 28, pos := "shard.go:50", after := #[{ on := 2, ground := Ground.data }], guard := none }) (v := ?vr7_3) rfl (by kernel_rfl) (by kernel_rfl) (by kernel_rfl) (fun _ _ _ h => h) (Or.inl ⟨by rfl, ?hyr7_3⟩) (by assumption) ?restr7_3
            case hyr7_3 => (intro wS hS; (try dsimp only at hS); go_simp; (try with_reducible rfl))
            (try simp only [Act.put, List.setIfInBounds_toArray, List.set_cons_zero, List.set_cons_succ])
            refine wpAnyH_ready (rs := [4]) (by kernel_rfl) (by simp) (AllReadyH.cons (o := { dst := some 14, op := Op.call { callee := Callee.value (Operand.func 21), args := #[Operand.tmp 13], argTypes := #[28] }, type := 4, pos := "shard.go:50", after := #[{ on := 3, ground := Ground.data }], guard := none }) rfl (fun K hK => ?_) AllReadyH.nil)
            go_simp
            refine (sh_entry x HO.out true HBX.out _ (HT.out.of hHeld.2.2.2.2.2.2.2.2.2.2)).mono ?_
            rintro e wz ⟨rfl, hbz⟩
            refine hK.out _ _ ⟨cell_below hbz hHeld.1, cell_below hbz hHeld.2.1, cell_below hbz hHeld.2.2.1, cell_below hbz hHeld.2.2.2.1, cell_below hbz hHeld.2.2.2.2.1, cell_below hbz hHeld.2.2.2.2.2.1, cell_below hbz hHeld.2.2.2.2.2.2.1, cell_below hbz hHeld.2.2.2.2.2.2.2.1, cell_below hbz hHeld.2.2.2.2.2.2.2.2.1, cell_below hbz hHeld.2.2.2.2.2.2.2.2.2.1, below_next hHeld.2.2.2.2.2.2.2.2.2.2 hbz⟩ (fun hHeld' => ?_)
            clear hHeld hbz
            have hHeld := hHeld'
            clear hHeld'
            clear hK K
            (try simp only [Act.put, List.setIfInBounds_toArray, List.set_cons_zero, List.set_cons_succ])
            refine wpAnyH_take (i := 5) (oi := { dst := some 15, op := Op.unOp UnOp.not 4 (Operand.tmp 14), type := 4, pos := "shard.go:50", after := #[{ on := 4, ground := Ground.data }], guard := none }) (v := ?vr7_5) rfl (by kernel_rfl) (by kernel_rfl) (by kernel_rfl) (fun _ _ _ h => h) (Or.inl ⟨by rfl, ?hyr7_5⟩) (by assumption) ?restr7_5
            case hyr7_5 => (intro wS hS; (try dsimp only at hS); go_simp; (try with_reducible rfl))
            (try simp only [Act.put, List.setIfInBounds_toArray, List.set_cons_zero, List.set_cons_succ])
            refine wpAnyH_take (i := 6) (oi := { dst := some 16, op := Op.move (Operand.tmp 15), type := 4, pos := "shard.go:50", after := #[{ on := 5, ground := Ground.data }, { on := 4, ground := Ground.chain }], guard := none }) (v := ?vr7_6) rfl (by kernel_rfl) (by kernel_rfl) (by kernel_rfl) (fun _ _ _ h => h) (Or.inl ⟨by rfl, ?hyr7_6⟩) (by assumption) ?restr7_6
            case hyr7_6 => (intro wS hS; (try dsimp only at hS); go_simp; (try with_reducible rfl))
            (try simp only [Act.put, List.setIfInBounds_toArray, List.set_cons_zero, List.set_cons_succ])
            refine wpAnyH_take (i := 7) (oi := { dst := some 17, op := Op.move (Operand.tmp 3), type := 3, pos := "shard.go:50", after := #[{ on := 6, ground := Ground.guard }], guard := some (6, false) }) (v := ?vr7_7) rfl (by kernel_rfl) (by kernel_rfl) (by kernel_rfl) (fun _ _ _ h => h) (Or.inl ⟨by rfl, ?hyr7_7⟩) (by assumption) ?restr7_7
            case hyr7_7 => (intro wS hS; (try dsimp only at hS); go_simp; (try with_reducible rfl))
            (try simp only [Act.put, List.setIfInBounds_toArray, List.set_cons_zero, List.set_cons_succ])
            refine wpAnyH_take (i := 8) (oi := { dst := some 18, op := Op.binOp BinOp.gtr 3 (Operand.tmp 17) (Operand.const (Value.int IntKind.i64 0)) 3, type := 4, pos := "shard.go:50", after := #[{ on := 7, ground := Ground.data }, { on := 6, ground := Ground.guard }], guard := some (6, false) }) (v := .bool true) rfl (by kernel_rfl) (by kernel_rfl) (by kernel_rfl) (fun _ _ _ h => h) (Or.inl ⟨by rfl, ?hyr7_8⟩) (by assumption) ?restr7_8
            case hyr7_8 => (intro wS hS; (try dsimp only at hS); rw [← hgt]; go_simp; (try with_reducible rfl))
            (try simp only [Act.put, List.setIfInBounds_toArray, List.set_cons_zero, List.set_cons_succ])
            refine wpAnyH_take (i := 9) (oi := { dst := some 19, op := Op.move (Operand.tmp 18), type := 4, pos := "shard.go:50", after := #[{ on := 8, ground := Ground.data }, { on := 6, ground := Ground.chain }, { on := 6, ground := Ground.guard }], guard := some (6, false) }) (v := ?vr7_9) rfl (by kernel_rfl) (by kernel_rfl) (by kernel_rfl) (fun _ _ _ h => h) (Or.inl ⟨by rfl, ?hyr7_9⟩) (by assumption) ?restr7_9
            case hyr7_9 => (intro wS hS; (try dsimp only at hS); go_simp; (try with_reducible rfl))
            (try simp only [Act.put, List.setIfInBounds_toArray, List.set_cons_zero, List.set_cons_succ])
            refine wpAnyH_take (i := 10) (oi := { dst := some 20, op := Op.move (Operand.tmp 0), type := 22, pos := "shard.go:50", after := #[{ on := 9, ground := Ground.guard }], guard := some (9, true) }) (v := ?vr7_10) rfl (by kernel_rfl) (by kernel_rfl) (by kernel_rfl) (fun _ _ _ h => h) (Or.inl ⟨by rfl, ?hyr7_10⟩) (by assumption) ?restr7_10
            case hyr7_10 => (intro wS hS; (try dsimp only at hS); go_simp; (try with_reducible rfl))
            (try simp only [Act.put, List.setIfInBounds_toArray, List.set_cons_zero, List.set_cons_succ])
            refine wpAnyH_take (i := 11) (oi := { dst := some 21, op := Op.move (Operand.tmp 3), type := 3, pos := "shard.go:50", after := #[{ on := 9, ground := Ground.guard }], guard := some (9, true) }) (v := ?vr7_11) rfl (by kernel_rfl) (by kernel_rfl) (by kernel_rfl) (fun _ _ _ h => h) (Or.inl ⟨by rfl, ?hyr7_11⟩) (by assumption) ?restr7_11
            case hyr7_11 => (intro wS hS; (try dsimp only at hS); go_simp; (try with_reducible rfl))
            (try simp only [Act.put, List.setIfInBounds_toArray, List.set_cons_zero, List.set_cons_succ])
            refine wpAnyH_take (i := 12) (oi := { dst := some 22, op := Op.binOp BinOp.sub 3 (Operand.tmp 21) (Operand.const (Value.int IntKind.i64 1)) 3, type := 3, pos := "shard.go:50", after := #[{ on := 11, ground := Ground.data }, { on := 9, ground := Ground.guard }], guard := some (9, true) }) (v := ?vr7_12) rfl (by kernel_rfl) (by kernel_rfl) (by kernel_rfl) (fun _ _ _ h => h) (Or.inl ⟨by rfl, ?hyr7_12⟩) (by assumption) ?restr7_12
            case hyr7_12 => (intro wS hS; (try dsimp only at hS); go_simp; (try with_reducible rfl))
            (try simp only [Act.put, List.setIfInBounds_toArray, List.set_cons_zero, List.set_cons_succ])
            refine wpAnyH_take (i := 13) (oi := { dst := some 23, op := Op.indexAddr 22 (Operand.tmp 20) (Operand.tmp 22), type := 0, pos := "shard.go:50", after := #[{ on := 10, ground := Ground.data }, { on := 12, ground := Ground.data }, { on := 9, ground := Ground.guard }], guard := some (9, true) }) (v := ?vr7_13) rfl (by kernel_rfl) (by kernel_rfl) (by kernel_rfl) (fun _ _ _ h => h) (Or.inl ⟨by rfl, ?hyr7_13⟩) (by assumption) ?restr7_13
            case hyr7_13 => (intro wS hS; (try dsimp only at hS); go_simp; (try with_reducible rfl))
            (try simp only [Act.put, List.setIfInBounds_toArray, List.set_cons_zero, List.set_cons_succ])
            refine wpAnyH_take (i := 14) (oi := { dst := some 24, op := Op.fieldAddr 28 (Operand.tmp 23) 0, type := 0, pos := "shard.go:50", after := #[{ on := 13, ground := Ground.data }, { on := 9, ground := Ground.guard }], guard := some (9, true) }) (v := ?vr7_14) rfl (by kernel_rfl) (by kernel_rfl) (by kernel_rfl) (fun _ _ _ h => h) (Or.inl ⟨by rfl, ?hyr7_14⟩) (by assumption) ?restr7_14
            case hyr7_14 => (intro wS hS; (try dsimp only at hS); go_simp; (try with_reducible rfl))
            (try simp only [Act.put, List.setIfInBounds_toArray, List.set_cons_zero, List.set_cons_succ])
            refine wpAnyH_take (i := 15) (oi := { dst := some 25, op := Op.load 25 (Operand.tmp 24), type := 25, pos := "shard.go:50", after := #[{ on := 14, ground := Ground.data }, { on := 9, ground := Ground.guard }], guard := some (9, true) }) (v := ?vr7_15) rfl (by kernel_rfl) (by kernel_rfl) (by kernel_rfl) (fun _ _ _ h => h) (Or.inl ⟨by rfl, ?hyr7_15⟩) (by assumption) ?restr7_15
            case hyr7_15 => (intro wS hS; (try dsimp only at hS); go_simp; (try with_reducible rfl))
            (try simp only [Act.put, List.setIfInBounds_toArray, List.set_cons_zero, List.set_cons_succ])
            refine wpAnyH_take (i := 16) (oi := { dst := some 26, op := Op.move (Operand.tmp 0), type := 22, pos := "shard.go:50", after := #[{ on := 9, ground := Ground.guard }], guard := some (9, true) }) (v := ?vr7_16) rfl (by kernel_rfl) (by kernel_rfl) (by kernel_rfl) (fun _ _ _ h => h) (Or.inl ⟨by rfl, ?hyr7_16⟩) (by assumption) ?restr7_16
            case hyr7_16 => (intro wS hS; (try dsimp only at hS); go_simp; (try with_reducible rfl))
            (try simp only [Act.put, List.setIfInBounds_toArray, List.set_cons_zero, List.set_cons_succ])
            refine wpAnyH_take (i := 17) (oi := { dst := some 27, op := Op.move (Operand.tmp 3), type := 3, pos := "shard.go:50", after := #[{ on := 9, ground := Ground.guard }], guard := some (9, true) }) (v := ?vr7_17) rfl (by kernel_rfl) (by kernel_rfl) (by kernel_rfl) (fun _ _ _ h => h) (Or.inl ⟨by rfl, ?hyr7_17⟩) (by assumption) ?restr7_17
            case hyr7_17 => (intro wS hS; (try dsimp only at hS); go_simp; (try with_reducible rfl))
            (try simp only [Act.put, List.setIfInBounds_toArray, List.set_cons_zero, List.set_cons_succ])
            refine wpAnyH_take (i := 18) (oi := { dst := some 28, op := Op.indexAddr 22 (Operand.tmp 26) (Operand.tmp 27), type := 0, pos := "shard.go:50", after := #[{ on := 16, ground := Ground.data }, { on := 17, ground := Ground.data }, { on := 9, ground := Ground.guard }], guard := some (9, true) }) (v := ?vr7_18) rfl (by kernel_rfl) (by kernel_rfl) (by kernel_rfl) (fun _ _ _ h => h) (Or.inl ⟨by rfl, ?hyr7_18⟩) (by assumption) ?restr7_18
            case hyr7_18 => (intro wS hS; (try dsimp only at hS); go_simp; (try with_reducible rfl))
            (try simp only [Act.put, List.setIfInBounds_toArray, List.set_cons_zero, List.set_cons_succ])
            refine wpAnyH_take (i := 19) (oi := { dst := some 29, op := Op.fieldAddr 28 (Operand.tmp 28) 0, type := 0, pos := "shard.go:50", after := #[{ on := 18, ground := Ground.data }, { on := 9, ground := Ground.guard }], guard := some (9, true) }) (v := ?vr7_19) rfl (by kernel_rfl) (by kernel_rfl) (by kernel_rfl) (fun _ _ _ h => h) (Or.inl ⟨by rfl, ?hyr7_19⟩) (by assumption) ?restr7_19
            case hyr7_19 => (intro wS hS; (try dsimp only at hS); go_simp; (try with_reducible rfl))
            (try simp only [Act.put, List.setIfInBounds_toArray, List.set_cons_zero, List.set_cons_succ])
            refine wpAnyH_take (i := 20) (oi := { dst := some 30, op := Op.load 25 (Operand.tmp 29), type := 25, pos := "shard.go:50", after := #[{ on := 19, ground := Ground.data }, { on := 9, ground := Ground.guard }], guard := some (9, true) }) (v := ?vr7_20) rfl (by kernel_rfl) (by kernel_rfl) (by kernel_rfl) (fun _ _ _ h => h) (Or.inl ⟨by rfl, ?hyr7_20⟩) (by assumption) ?restr7_20
            case hyr7_20 => (intro wS hS; (try dsimp only at hS); go_simp; (try with_reducible rfl))
            (try simp only [Act.put, List.setIfInBounds_toArray, List.set_cons_zero, List.set_cons_succ])
            refine wpAnyH_ready (rs := [21]) (by kernel_rfl) (by simp) (AllReadyH.cons (o := { dst := some 31, op := Op.call { callee := Callee.value (Operand.func 51), args := #[Operand.tmp 25, Operand.tmp 30], argTypes := #[25, 25] }, type := 3, pos := "shard.go:50", after := #[{ on := 15, ground := Ground.data }, { on := 20, ground := Ground.data }, { on := 9, ground := Ground.chain }, { on := 9, ground := Ground.guard }], guard := some (9, true) }) rfl (fun K hK => ?_) AllReadyH.nil)
            go_simp
            refine (sh_order y x.f0 _ HO2.out _).mono ?_
            rintro e wz ⟨rfl, hbz⟩
            refine hK.out _ _ ⟨cell_below hbz hHeld.1, cell_below hbz hHeld.2.1, cell_below hbz hHeld.2.2.1, cell_below hbz hHeld.2.2.2.1, cell_below hbz hHeld.2.2.2.2.1, cell_below hbz hHeld.2.2.2.2.2.1, cell_below hbz hHeld.2.2.2.2.2.2.1, cell_below hbz hHeld.2.2.2.2.2.2.2.1, cell_below hbz hHeld.2.2.2.2.2.2.2.2.1, cell_below hbz hHeld.2.2.2.2.2.2.2.2.2.1, below_next hHeld.2.2.2.2.2.2.2.2.2.2 hbz⟩ (fun hHeld' => ?_)
            clear hHeld hbz
            have hHeld := hHeld'
            clear hHeld'
            clear hK K
            (try simp only [Act.put, List.setIfInBounds_toArray, List.set_cons_zero, List.set_cons_succ])
            refine wpAnyH_take (i := 22) (oi := { dst := some 32, op := Op.binOp BinOp.geq 3 (Operand.tmp 31) (Operand.const (Value.int IntKind.i64 0)) 3, type := 4, pos := "shard.go:50", after := #[{ on := 21, ground := Ground.data }, { on := 9, ground := Ground.guard }], guard := some (9, true) }) (v := ?vr7_22) rfl (by kernel_rfl) (by kernel_rfl) (by kernel_rfl) (fun _ _ _ h => h) (Or.inl ⟨by rfl, ?hyr7_22⟩) (by assumption) ?restr7_22
            case hyr7_22 => (intro wS hS; (try dsimp only at hS); go_simp; (try with_reducible rfl))
            (try simp only [Act.put, List.setIfInBounds_toArray, List.set_cons_zero, List.set_cons_succ])
            refine wpAnyH_take (i := 23) (oi := { dst := some 33, op := Op.pick (Operand.tmp 19) (Operand.tmp 32) (Operand.const (Value.bool false)), type := 4, pos := "shard.go:50", after := #[{ on := 9, ground := Ground.data }, { on := 22, ground := Ground.data }, { on := 6, ground := Ground.guard }], guard := some (6, false) }) (v := ?vr7_23) rfl (by kernel_rfl) (by kernel_rfl) (by kernel_rfl) (fun _ _ _ h => h) (Or.inl ⟨by rfl, ?hyr7_23⟩) (by assumption) ?restr7_23
            case hyr7_23 => (intro wS hS; (try dsimp only at hS); go_simp; (try with_reducible rfl))
            (try simp only [Act.put, List.setIfInBounds_toArray, List.set_cons_zero, List.set_cons_succ])
            refine wpAnyH_take (i := 24) (oi := { dst := some 34, op := Op.pick (Operand.tmp 16) (Operand.const (Value.bool true)) (Operand.tmp 33), type := 4, pos := "shard.go:50", after := #[{ on := 6, ground := Ground.data }, { on := 23, ground := Ground.data }], guard := none }) (v := ?vr7_24) rfl (by kernel_rfl) (by kernel_rfl) (by kernel_rfl) (fun _ _ _ h => h) (Or.inl ⟨by rfl, ?hyr7_24⟩) (by assumption) ?restr7_24
            case hyr7_24 => (intro wS hS; (try dsimp only at hS); go_simp; (try with_reducible rfl))
            (try simp only [Act.put, List.setIfInBounds_toArray, List.set_cons_zero, List.set_cons_succ])
            refine wpAnyH_done (by kernel_rfl) ?_ _
            go_wp2
            go_step3
            refine ⟨rfl, hJ _ _ ⟨k + 1, _, _, _, _, _, _, _, _, _, _, _, _, _, _, _, _, _, _, _, _, _, _, _, _, _, _, _, _, _, _, _, _, _, _, rfl, by omega, by omega, hg', hHeld.2.2.2.2.2.2.2.2.2.2⟩ ?_⟩
            simp [slotInt]
            omega
          · have hbad := Sealed.mk (bad_at hlt (.inr (HD2.out ho1)))
            have g1 : decide (0 ≤ o) = true := by simp; omega
            clear HD HD2 ho1
            go_wp2_with fail
            refine wp_region_held_drew (S := fun w' => w'.cell? (ad.add (k * 8)) = some (.int .u32 x.f0.f0) ∧ w'.cell? ⟨(ad.add (k * 8)).block, (ad.add (k * 8)).off + 1, none⟩ = some (.string x.f0.f1) ∧ w'.cell? ⟨(ad.add (k * 8)).block, (ad.add (k * 8)).off + 2, none⟩ = some (.int .i64 x.f1) ∧ w'.cell? ⟨(ad.add (k * 8)).block, (ad.add (k * 8)).off + 3, none⟩ = some (.string x.f2) ∧ w'.cell? ⟨(ad.add (k * 8)).block, (ad.add (k * 8)).off + 4, none⟩ = some (.int .u64 x.f3) ∧ w'.cell? ⟨(ad.add (k * 8)).block, (ad.add (k * 8)).off + 5, none⟩ = some (.string x.f4) ∧ w'.cell? ⟨(ad.add (k * 8)).block, (ad.add (k * 8)).off + 6, none⟩ = some (.int .i64 x.f5) ∧ w'.cell? ⟨(ad.add (k * 8)).block, (ad.add (k * 8)).off + 7, none⟩ = some (.int .i64 x.f6) ∧ w'.cell? (ad.add (p * 8)) = some (.int .u32 y.f0) ∧ w'.cell? ⟨(ad.add (p * 8)).block, (ad.add (p * 8)).off + 1, none⟩ = some (.string y.f1) ∧ Below w.heap.size w w') (by kernel_rfl) (⟨c0, c1, c2, c3, c4, c5, c6, c7, p0, p1, hb.drew⟩) (fun hHeld => ?_)
            refine wpAnyH_take (i := 0) (oi := { dst := some 10, op := Op.move (Operand.tmp 0), type := 22, pos := "shard.go:50", after := #[], guard := none }) (v := ?vr8_0) rfl (by kernel_rfl) (by kernel_rfl) (by kernel_rfl) (fun _ _ _ h => h) (Or.inl ⟨by rfl, ?hyr8_0⟩) (by assumption) ?restr8_0
            case hyr8_0 => (intro wS hS; (try dsimp only at hS); go_simp; (try with_reducible rfl))
            (try simp only [Act.put, List.setIfInBounds_toArray, List.set_cons_zero, List.set_cons_succ])
            refine wpAnyH_take (i := 1) (oi := { dst := some 11, op := Op.move (Operand.tmp 3), type := 3, pos := "shard.go:50", after := #[], guard := none }) (v := ?vr8_1) rfl (by kernel_rfl) (by kernel_rfl) (by kernel_rfl) (fun _ _ _ h => h) (Or.inl ⟨by rfl, ?hyr8_1⟩) (by assumption) ?restr8_1
            case hyr8_1 => (intro wS hS; (try dsimp only at hS); go_simp; (try with_reducible rfl))
            (try simp only [Act.put, List.setIfInBounds_toArray, List.set_cons_zero, List.set_cons_succ])
            refine wpAnyH_take (i := 2) (oi := { dst := some 12, op := Op.indexAddr 22 (Operand.tmp 10) (Operand.tmp 11), type := 0, pos := "shard.go:50", after := #[{ on := 0, ground := Ground.data }, { on := 1, ground := Ground.data }], guard := none }) (v := ?vr8_2) rfl (by kernel_rfl) (by kernel_rfl) (by kernel_rfl) (fun _ _ _ h => h) (Or.inl ⟨by rfl, ?hyr8_2⟩) (by assumption) ?restr8_2
            case hyr8_2 => (intro wS hS; (try dsimp only at hS); go_simp; (try with_reducible rfl))
            (try simp only [Act.put, List.setIfInBounds_toArray, List.set_cons_zero, List.set_cons_succ])
            refine wpAnyH_take (i := 3) (oi := { dst := some 13, op := Op.load 28 (Operand.tmp 12), type := 28, pos := "shard.go:50", after := #[{ on := 2, ground := Ground.data }], guard := none }) (v := ?vr8_3) rfl (by kernel_rfl) (by kernel_rfl) (by kernel_rfl) (fun _ _ _ h => h) (Or.inl ⟨by rfl, ?hyr8_3⟩) (by assumption) ?restr8_3
            case hyr8_3 => (intro wS hS; (try dsimp only at hS); go_simp; (try with_reducible rfl))
            (try simp only [Act.put, List.setIfInBounds_toArray, List.set_cons_zero, List.set_cons_succ])
            refine wpAnyH_ready (rs := [4]) (by kernel_rfl) (by simp) (AllReadyH.cons (o := { dst := some 14, op := Op.call { callee := Callee.value (Operand.func 21), args := #[Operand.tmp 13], argTypes := #[28] }, type := 4, pos := "shard.go:50", after := #[{ on := 3, ground := Ground.data }], guard := none }) rfl (fun K hK => ?_) AllReadyH.nil)
            go_simp
            refine (sh_entry x HO.out true HBX.out _ (HT.out.of hHeld.2.2.2.2.2.2.2.2.2.2)).mono ?_
            rintro e wz ⟨rfl, hbz⟩
            refine hK.out _ _ ⟨cell_below hbz hHeld.1, cell_below hbz hHeld.2.1, cell_below hbz hHeld.2.2.1, cell_below hbz hHeld.2.2.2.1, cell_below hbz hHeld.2.2.2.2.1, cell_below hbz hHeld.2.2.2.2.2.1, cell_below hbz hHeld.2.2.2.2.2.2.1, cell_below hbz hHeld.2.2.2.2.2.2.2.1, cell_below hbz hHeld.2.2.2.2.2.2.2.2.1, cell_below hbz hHeld.2.2.2.2.2.2.2.2.2.1, below_next hHeld.2.2.2.2.2.2.2.2.2.2 hbz⟩ (fun hHeld' => ?_)
            clear hHeld hbz
            have hHeld := hHeld'
            clear hHeld'
            clear hK K
            (try simp only [Act.put, List.setIfInBounds_toArray, List.set_cons_zero, List.set_cons_succ])
            refine wpAnyH_take (i := 5) (oi := { dst := some 15, op := Op.unOp UnOp.not 4 (Operand.tmp 14), type := 4, pos := "shard.go:50", after := #[{ on := 4, ground := Ground.data }], guard := none }) (v := ?vr8_5) rfl (by kernel_rfl) (by kernel_rfl) (by kernel_rfl) (fun _ _ _ h => h) (Or.inl ⟨by rfl, ?hyr8_5⟩) (by assumption) ?restr8_5
            case hyr8_5 => (intro wS hS; (try dsimp only at hS); go_simp; (try with_reducible rfl))
            (try simp only [Act.put, List.setIfInBounds_toArray, List.set_cons_zero, List.set_cons_succ])
            refine wpAnyH_take (i := 6) (oi := { dst := some 16, op := Op.move (Operand.tmp 15), type := 4, pos := "shard.go:50", after := #[{ on := 5, ground := Ground.data }, { on := 4, ground := Ground.chain }], guard := none }) (v := ?vr8_6) rfl (by kernel_rfl) (by kernel_rfl) (by kernel_rfl) (fun _ _ _ h => h) (Or.inl ⟨by rfl, ?hyr8_6⟩) (by assumption) ?restr8_6
            case hyr8_6 => (intro wS hS; (try dsimp only at hS); go_simp; (try with_reducible rfl))
            (try simp only [Act.put, List.setIfInBounds_toArray, List.set_cons_zero, List.set_cons_succ])
            refine wpAnyH_take (i := 7) (oi := { dst := some 17, op := Op.move (Operand.tmp 3), type := 3, pos := "shard.go:50", after := #[{ on := 6, ground := Ground.guard }], guard := some (6, false) }) (v := ?vr8_7) rfl (by kernel_rfl) (by kernel_rfl) (by kernel_rfl) (fun _ _ _ h => h) (Or.inl ⟨by rfl, ?hyr8_7⟩) (by assumption) ?restr8_7
            case hyr8_7 => (intro wS hS; (try dsimp only at hS); go_simp; (try with_reducible rfl))
            (try simp only [Act.put, List.setIfInBounds_toArray, List.set_cons_zero, List.set_cons_succ])
            refine wpAnyH_take (i := 8) (oi := { dst := some 18, op := Op.binOp BinOp.gtr 3 (Operand.tmp 17) (Operand.const (Value.int IntKind.i64 0)) 3, type := 4, pos := "shard.go:50", after := #[{ on := 7, ground := Ground.data }, { on := 6, ground := Ground.guard }], guard := some (6, false) }) (v := .bool true) rfl (by kernel_rfl) (by kernel_rfl) (by kernel_rfl) (fun _ _ _ h => h) (Or.inl ⟨by rfl, ?hyr8_8⟩) (by assumption) ?restr8_8
            case hyr8_8 => (intro wS hS; (try dsimp only at hS); rw [← hgt]; go_simp; (try with_reducible rfl))
            (try simp only [Act.put, List.setIfInBounds_toArray, List.set_cons_zero, List.set_cons_succ])
            refine wpAnyH_take (i := 9) (oi := { dst := some 19, op := Op.move (Operand.tmp 18), type := 4, pos := "shard.go:50", after := #[{ on := 8, ground := Ground.data }, { on := 6, ground := Ground.chain }, { on := 6, ground := Ground.guard }], guard := some (6, false) }) (v := ?vr8_9) rfl (by kernel_rfl) (by kernel_rfl) (by kernel_rfl) (fun _ _ _ h => h) (Or.inl ⟨by rfl, ?hyr8_9⟩) (by assumption) ?restr8_9
            case hyr8_9 => (intro wS hS; (try dsimp only at hS); go_simp; (try with_reducible rfl))
            (try simp only [Act.put, List.setIfInBounds_toArray, List.set_cons_zero, List.set_cons_succ])
            refine wpAnyH_take (i := 10) (oi := { dst := some 20, op := Op.move (Operand.tmp 0), type := 22, pos := "shard.go:50", after := #[{ on := 9, ground := Ground.guard }], guard := some (9, true) }) (v := ?vr8_10) rfl (by kernel_rfl) (by kernel_rfl) (by kernel_rfl) (fun _ _ _ h => h) (Or.inl ⟨by rfl, ?hyr8_10⟩) (by assumption) ?restr8_10
            case hyr8_10 => (intro wS hS; (try dsimp only at hS); go_simp; (try with_reducible rfl))
            (try simp only [Act.put, List.setIfInBounds_toArray, List.set_cons_zero, List.set_cons_succ])
            refine wpAnyH_take (i := 11) (oi := { dst := some 21, op := Op.move (Operand.tmp 3), type := 3, pos := "shard.go:50", after := #[{ on := 9, ground := Ground.guard }], guard := some (9, true) }) (v := ?vr8_11) rfl (by kernel_rfl) (by kernel_rfl) (by kernel_rfl) (fun _ _ _ h => h) (Or.inl ⟨by rfl, ?hyr8_11⟩) (by assumption) ?restr8_11
            case hyr8_11 => (intro wS hS; (try dsimp only at hS); go_simp; (try with_reducible rfl))
            (try simp only [Act.put, List.setIfInBounds_toArray, List.set_cons_zero, List.set_cons_succ])
            refine wpAnyH_take (i := 12) (oi := { dst := some 22, op := Op.binOp BinOp.sub 3 (Operand.tmp 21) (Operand.const (Value.int IntKind.i64 1)) 3, type := 3, pos := "shard.go:50", after := #[{ on := 11, ground := Ground.data }, { on := 9, ground := Ground.guard }], guard := some (9, true) }) (v := ?vr8_12) rfl (by kernel_rfl) (by kernel_rfl) (by kernel_rfl) (fun _ _ _ h => h) (Or.inl ⟨by rfl, ?hyr8_12⟩) (by assumption) ?restr8_12
            case hyr8_12 => (intro wS hS; (try dsimp only at hS); go_simp; (try with_reducible rfl))
            (try simp only [Act.put, List.setIfInBounds_toArray, List.set_cons_zero, List.set_cons_succ])
            refine wpAnyH_take (i := 13) (oi := { dst := some 23, op := Op.indexAddr 22 (Operand.tmp 20) (Operand.tmp 22), type := 0, pos := "shard.go:50", after := #[{ on := 10, ground := Ground.data }, { on := 12, ground := Ground.data }, { on := 9, ground := Ground.guard }], guard := some (9, true) }) (v := ?vr8_13) rfl (by kernel_rfl) (by kernel_rfl) (by kernel_rfl) (fun _ _ _ h => h) (Or.inl ⟨by rfl, ?hyr8_13⟩) (by assumption) ?restr8_13
            case hyr8_13 => (intro wS hS; (try dsimp only at hS); go_simp; (try with_reducible rfl))
            (try simp only [Act.put, List.setIfInBounds_toArray, List.set_cons_zero, List.set_cons_succ])
            refine wpAnyH_take (i := 14) (oi := { dst := some 24, op := Op.fieldAddr 28 (Operand.tmp 23) 0, type := 0, pos := "shard.go:50", after := #[{ on := 13, ground := Ground.data }, { on := 9, ground := Ground.guard }], guard := some (9, true) }) (v := ?vr8_14) rfl (by kernel_rfl) (by kernel_rfl) (by kernel_rfl) (fun _ _ _ h => h) (Or.inl ⟨by rfl, ?hyr8_14⟩) (by assumption) ?restr8_14
            case hyr8_14 => (intro wS hS; (try dsimp only at hS); go_simp; (try with_reducible rfl))
            (try simp only [Act.put, List.setIfInBounds_toArray, List.set_cons_zero, List.set_cons_succ])
            refine wpAnyH_take (i := 15) (oi := { dst := some 25, op := Op.load 25 (Operand.tmp 24), type := 25, pos := "shard.go:50", after := #[{ on := 14, ground := Ground.data }, { on := 9, ground := Ground.guard }], guard := some (9, true) }) (v := ?vr8_15) rfl (by kernel_rfl) (by kernel_rfl) (by kernel_rfl) (fun _ _ _ h => h) (Or.inl ⟨by rfl, ?hyr8_15⟩) (by assumption) ?restr8_15
            case hyr8_15 => (intro wS hS; (try dsimp only at hS); go_simp; (try with_reducible rfl))
            (try simp only [Act.put, List.setIfInBounds_toArray, List.set_cons_zero, List.set_cons_succ])
            refine wpAnyH_take (i := 16) (oi := { dst := some 26, op := Op.move (Operand.tmp 0), type := 22, pos := "shard.go:50", after := #[{ on := 9, ground := Ground.guard }], guard := some (9, true) }) (v := ?vr8_16) rfl (by kernel_rfl) (by kernel_rfl) (by kernel_rfl) (fun _ _ _ h => h) (Or.inl ⟨by rfl, ?hyr8_16⟩) (by assumption) ?restr8_16
            case hyr8_16 => (intro wS hS; (try dsimp only at hS); go_simp; (try with_reducible rfl))
            (try simp only [Act.put, List.setIfInBounds_toArray, List.set_cons_zero, List.set_cons_succ])
            refine wpAnyH_take (i := 17) (oi := { dst := some 27, op := Op.move (Operand.tmp 3), type := 3, pos := "shard.go:50", after := #[{ on := 9, ground := Ground.guard }], guard := some (9, true) }) (v := ?vr8_17) rfl (by kernel_rfl) (by kernel_rfl) (by kernel_rfl) (fun _ _ _ h => h) (Or.inl ⟨by rfl, ?hyr8_17⟩) (by assumption) ?restr8_17
            case hyr8_17 => (intro wS hS; (try dsimp only at hS); go_simp; (try with_reducible rfl))
            (try simp only [Act.put, List.setIfInBounds_toArray, List.set_cons_zero, List.set_cons_succ])
            refine wpAnyH_take (i := 18) (oi := { dst := some 28, op := Op.indexAddr 22 (Operand.tmp 26) (Operand.tmp 27), type := 0, pos := "shard.go:50", after := #[{ on := 16, ground := Ground.data }, { on := 17, ground := Ground.data }, { on := 9, ground := Ground.guard }], guard := some (9, true) }) (v := ?vr8_18) rfl (by kernel_rfl) (by kernel_rfl) (by kernel_rfl) (fun _ _ _ h => h) (Or.inl ⟨by rfl, ?hyr8_18⟩) (by assumption) ?restr8_18
            case hyr8_18 => (intro wS hS; (try dsimp only at hS); go_simp; (try with_reducible rfl))
            (try simp only [Act.put, List.setIfInBounds_toArray, List.set_cons_zero, List.set_cons_succ])
            refine wpAnyH_take (i := 19) (oi := { dst := some 29, op := Op.fieldAddr 28 (Operand.tmp 28) 0, type := 0, pos := "shard.go:50", after := #[{ on := 18, ground := Ground.data }, { on := 9, ground := Ground.guard }], guard := some (9, true) }) (v := ?vr8_19) rfl (by kernel_rfl) (by kernel_rfl) (by kernel_rfl) (fun _ _ _ h => h) (Or.inl ⟨by rfl, ?hyr8_19⟩) (by assumption) ?restr8_19
            case hyr8_19 => (intro wS hS; (try dsimp only at hS); go_simp; (try with_reducible rfl))
            (try simp only [Act.put, List.setIfInBounds_toArray, List.set_cons_zero, List.set_cons_succ])
            refine wpAnyH_take (i := 20) (oi := { dst := some 30, op := Op.load 25 (Operand.tmp 29), type := 25, pos := "shard.go:50", after := #[{ on := 19, ground := Ground.data }, { on := 9, ground := Ground.guard }], guard := some (9, true) }) (v := ?vr8_20) rfl (by kernel_rfl) (by kernel_rfl) (by kernel_rfl) (fun _ _ _ h => h) (Or.inl ⟨by rfl, ?hyr8_20⟩) (by assumption) ?restr8_20
            case hyr8_20 => (intro wS hS; (try dsimp only at hS); go_simp; (try with_reducible rfl))
            (try simp only [Act.put, List.setIfInBounds_toArray, List.set_cons_zero, List.set_cons_succ])
            refine wpAnyH_ready (rs := [21]) (by kernel_rfl) (by simp) (AllReadyH.cons (o := { dst := some 31, op := Op.call { callee := Callee.value (Operand.func 51), args := #[Operand.tmp 25, Operand.tmp 30], argTypes := #[25, 25] }, type := 3, pos := "shard.go:50", after := #[{ on := 15, ground := Ground.data }, { on := 20, ground := Ground.data }, { on := 9, ground := Ground.chain }, { on := 9, ground := Ground.guard }], guard := some (9, true) }) rfl (fun K hK => ?_) AllReadyH.nil)
            go_simp
            refine (sh_order y x.f0 _ HO2.out _).mono ?_
            rintro e wz ⟨rfl, hbz⟩
            refine hK.out _ _ ⟨cell_below hbz hHeld.1, cell_below hbz hHeld.2.1, cell_below hbz hHeld.2.2.1, cell_below hbz hHeld.2.2.2.1, cell_below hbz hHeld.2.2.2.2.1, cell_below hbz hHeld.2.2.2.2.2.1, cell_below hbz hHeld.2.2.2.2.2.2.1, cell_below hbz hHeld.2.2.2.2.2.2.2.1, cell_below hbz hHeld.2.2.2.2.2.2.2.2.1, cell_below hbz hHeld.2.2.2.2.2.2.2.2.2.1, below_next hHeld.2.2.2.2.2.2.2.2.2.2 hbz⟩ (fun hHeld' => ?_)
            clear hHeld hbz
            have hHeld := hHeld'
            clear hHeld'
            clear hK K
            (try simp only [Act.put, List.setIfInBounds_toArray, List.set_cons_zero, List.set_cons_succ])
            refine wpAnyH_take (i := 22) (oi := { dst := some 32, op := Op.binOp BinOp.geq 3 (Operand.tmp 31) (Operand.const (Value.int IntKind.i64 0)) 3, type := 4, pos := "shard.go:50", after := #[{ on := 21, ground := Ground.data }, { on := 9, ground := Ground.guard }], guard := some (9, true) }) (v := ?vr8_22) rfl (by kernel_rfl) (by kernel_rfl) (by kernel_rfl) (fun _ _ _ h => h) (Or.inl ⟨by rfl, ?hyr8_22⟩) (by assumption) ?restr8_22
            case hyr8_22 => (intro wS hS; (try dsimp only at hS); go_simp; (try with_reducible rfl))
            (try simp only [Act.put, List.setIfInBounds_toArray, List.set_cons_zero, List.set_cons_succ])
            refine wpAnyH_take (i := 23) (oi := { dst := some 33, op := Op.pick (Operand.tmp 19) (Operand.tmp 32) (Operand.const (Value.bool false)), type := 4, pos := "shard.go:50", after := #[{ on := 9, ground := Ground.data }, { on := 22, ground := Ground.data }, { on := 6, ground := Ground.guard }], guard := some (6, false) }) (v := ?vr8_23) rfl (by kernel_rfl) (by kernel_rfl) (by kernel_rfl) (fun _ _ _ h => h) (Or.inl ⟨by rfl, ?hyr8_23⟩) (by assumption) ?restr8_23
            case hyr8_23 => (intro wS hS; (try dsimp only at hS); go_simp; (try with_reducible rfl))
            (try simp only [Act.put, List.setIfInBounds_toArray, List.set_cons_zero, List.set_cons_succ])
            refine wpAnyH_take (i := 24) (oi := { dst := some 34, op := Op.pick (Operand.tmp 16) (Operand.const (Value.bool true)) (Operand.tmp 33), type := 4, pos := "shard.go:50", after := #[{ on := 6, ground := Ground.data }, { on := 23, ground := Ground.data }], guard := none }) (v := ?vr8_24) rfl (by kernel_rfl) (by kernel_rfl) (by kernel_rfl) (fun _ _ _ h => h) (Or.inl ⟨by rfl, ?hyr8_24⟩) (by assumption) ?restr8_24
            case hyr8_24 => (intro wS hS; (try dsimp only at hS); go_simp; (try with_reducible rfl))
            (try simp only [Act.put, List.setIfInBounds_toArray, List.set_cons_zero, List.set_cons_succ])
            refine wpAnyH_done (by kernel_rfl) ?_ _
            go_wp2
            simp only [Exit.jump]
            go_ret
            exact ⟨by rw [hbad.out]; rfl, hHeld.2.2.2.2.2.2.2.2.2.2⟩
    · have hk2 : k = l.length := by omega
      subst hk2
      have hg' := Sealed.mk (good_all hg.out)
      have hd : decide ((l.length : Int) ≤ 128) = decide (l.length ≤ 128) := by rw [decide_eq_decide]; omega
      go_wp2
      simp only [Exit.jump]
      go_ret
      exact ⟨by rw [hg'.out]; simp [hd], hb⟩
  · intro go
    go_wp2
    go_step3
    rename_i hK
    exact hK _ _ (go _ _ ⟨0, 0, _, _, _, _, _, _, _, _, _, _, _, _, _, _, _, _, _, _, _, _, _, _, _, _, _, _, _, _, _, _, _, _, _, rfl, rfl, Nat.zero_le _, ⟨fun j _ h => absurd h (by omega)⟩, Below.refl _ _⟩)
end Go.Proofs.YtkgkemihhfipaaaDoor.HK

/- Packed by pack.py (this session's own program): texts of the kit's printer and of my own, what is not used struck. -/
import Derived.Test.YtkgkemihhfipaaaDoorRRightW
set_option linter.unusedVariables false
set_option linter.unusedSimpArgs false
set_option linter.unusedSectionVars false
namespace Go.Proofs.YtkgkemihhfipaaaDoor.HK
open Go.RowKit Go.Proofs.YtkgkemihhfipaaaDoorW.PrintWords Go.Proofs.YtkgkemihhfipaaaDoorW.PrintLast Go.Proofs.YtkgkemihhfipaaaDoorW.PrintMore
theorem place_cmp (x : EE) (q : EK) (o : Int) (ho : ordK x.f0 q = o) (w : World) : Calls Tryd.prog 62 #[.agg #[.int .u32 x.f0.f0, .string x.f0.f1, .int .i64 x.f1, .string x.f2, .int .u64 x.f3, .string x.f4, .int .i64 x.f5, .int .i64 x.f6], .agg #[.int .u32 q.f0, .string q.f1]] w fun e w' => e = .returned (.int .i64 o) ∧ Below w.heap.size w w' := by
  have HO := Sealed.mk ho
  clear ho
  go_enter Tryd.func62, Tryd.ntmps62
  go_wp2_with fail
  refine (sh_order x.f0 q o HO.out _).mono ?_
  rintro e w1 ⟨rfl, hb⟩
  go_wp2
  go_ret
  exact ⟨rfl, below_next (below_next (below_alloc _ _) (below_alloc _ _)) hb⟩
def seenAt (l : List EE) (q : EK) (p : Nat) : Bool := match l[p]? with | some x => decide (ordK x.f0 q = 0) | none => false
theorem half_next {l : List EE} {q : EK} (hinc : Inc ordK κE l) {m hi : Nat} (hm : m < l.length) (h : 0 ≤ ordK l[m].f0 q) : ∀ (j : Nat) (x : EE), l[j]? = some x → m ≤ j → 0 ≤ ordK x.f0 q := by
  intro j x hx hj
  obtain ⟨hjl, rfl⟩ := List.getElem?_eq_some_iff.1 hx
  rcases Nat.eq_or_lt_of_le hj with rfl | hlt
  · exact h
  · have h1 : ordK l[m].f0 l[j].f0 < 0 := List.pairwise_iff_getElem.1 hinc m j hm hjl hlt
    have h2 := (ordK_is.flip _ _).1 h1
    rcases Int.lt_or_eq_of_le h with h3 | h3
    · have := ordK_is.trans q l[m].f0 l[j].f0 ((ordK_is.flip _ _).2 h3) h1
      have := (ordK_is.flip _ _).1 this
      omega
    · have := (ordK_zero _ _).1 h3.symm
      rw [← this]
      omega
theorem half_below {l : List EE} {q : EK} (hinc : Inc ordK κE l) {m : Nat} (hm : m < l.length) (h : ordK l[m].f0 q < 0) : ∀ (j : Nat) (x : EE), l[j]? = some x → j < m + 1 → ordK x.f0 q < 0 := by
  intro j x hx hj
  obtain ⟨hjl, rfl⟩ := List.getElem?_eq_some_iff.1 hx
  rcases Nat.lt_or_ge j m with hlt | hge
  · have h1 : ordK l[j].f0 l[m].f0 < 0 := List.pairwise_iff_getElem.1 hinc j m hjl hm hlt
    exact ordK_is.trans _ _ _ h1 h
  · obtain rfl : j = m := by omega
    exact h
set_option maxHeartbeats 8000000 in
set_option maxRecDepth 100000 in
theorem search_e (A : Option Addr) (c : Nat) (l : List EE) (q : EK) (w : World) (hr : Kd.C k28 w A l.length l) (hc : l.length ≤ c) (hn : l.length ≤ 1000) (hinc : Inc ordK κE l) :
    Calls Tryd.prog 61 #[.slice A l.length c, .agg #[.int .u32 q.f0, .string q.f1], .func (.func 62) #[] #[]] w fun e w' => ∃ p : Nat, At (c := ordK) (κ := κE) l q p ∧ e = .returned (.tuple #[.int .i64 (p : Int), .bool (seenAt l q p)]) ∧ Below w.heap.size w w' := by
  have HR := Sealed.mk hr
  have HI := Sealed.mk hinc
  obtain ⟨q0, q1⟩ := q
  clear hr hinc
  go_enter Tryd.func61, Tryd.ntmps61
  go_wp2
  go_loopw [9, 10] (fun s9 s10 wr => ∃ lo hi : Nat, s9 = .int .i64 (lo : Nat) ∧ s10 = .int .i64 (hi : Nat) ∧ lo ≤ hi ∧ hi ≤ l.length ∧ Sealed (∀ j x, l[j]? = some x → j < lo → ordK x.f0 ⟨q0, q1⟩ < 0) ∧ Sealed (∀ j x, l[j]? = some x → hi ≤ j → 0 ≤ ordK x.f0 ⟨q0, q1⟩) ∧ wr.cell? ⟨w.heap.size, 0, none⟩ = some (.int .u32 q0) ∧ wr.cell? ⟨w.heap.size, 1, none⟩ = some (.string q1) ∧ Below w.heap.size w wr) (fun a b _ => (intOf b).toNat - (intOf a).toNat)
  case atStart => exact ⟨0, l.length, rfl, rfl, Nat.zero_le _, Nat.le_refl _, ⟨fun j x _ h => absurd h (by omega)⟩, ⟨fun j x hx h => by have := (List.getElem?_eq_some_iff.1 hx).1; omega⟩, by simp, by simp, below_alloc _ _⟩
  case round =>
    obtain ⟨lo, hi, rfl, rfl, hlh, hhi, HL, HH, b0, b1, hb⟩ := hrel
    by_cases hlt : lo < hi
    · obtain ⟨m, hm⟩ : ∃ m, (lo + hi) / 2 = m := ⟨_, rfl⟩
      have hml : m < l.length := by omega
      have hm1 : lo ≤ m := by omega
      have hm2 : m < hi := by omega
      have wm : ((lo : Int) + (hi : Int)) / 2 = (m : Int) := by omega
      obtain ⟨ad, rfl, c0, c1, c2, c3, c4, c5, c6, c7⟩ := at_e HR.out rfl m hml
      replace c0 := cell_below hb c0
      replace c1 := cell_below hb c1
      replace c2 := cell_below hb c2
      replace c3 := cell_below hb c3
      replace c4 := cell_below hb c4
      replace c5 := cell_below hb c5
      replace c6 := cell_below hb c6
      replace c7 := cell_below hb c7
      obtain ⟨x, hxe⟩ : ∃ x, l[m] = x := ⟨_, rfl⟩
      rw [hxe] at c0 c1 c2 c3 c4 c5 c6 c7
      have HX := Sealed.mk hxe
      have HM := Sealed.mk hm
      clear hxe hm
      obtain ⟨o, ho⟩ : ∃ o, ordK x.f0 ⟨q0, q1⟩ = o := ⟨_, rfl⟩
      have HO := Sealed.mk ho
      clear ho
      by_cases hneg : o < 0
      · have hgo : decide (o < 0) = true := by simp; omega
        have hnew := Sealed.mk (half_below HI.out hml (q := ⟨q0, q1⟩) (by rw [HX.out, HO.out]; exact hneg))
        clear hneg
        go_wp2_with fail
        refine wp_region_held_drew (S := fun w' => w'.cell? (ad.add (m * 8)) = some (.int .u32 x.f0.f0) ∧ w'.cell? ⟨(ad.add (m * 8)).block, (ad.add (m * 8)).off + 1, none⟩ = some (.string x.f0.f1) ∧ w'.cell? ⟨(ad.add (m * 8)).block, (ad.add (m * 8)).off + 2, none⟩ = some (.int .i64 x.f1) ∧ w'.cell? ⟨(ad.add (m * 8)).block, (ad.add (m * 8)).off + 3, none⟩ = some (.string x.f2) ∧ w'.cell? ⟨(ad.add (m * 8)).block, (ad.add (m * 8)).off + 4, none⟩ = some (.int .u64 x.f3) ∧ w'.cell? ⟨(ad.add (m * 8)).block, (ad.add (m * 8)).off + 5, none⟩ = some (.string x.f4) ∧ w'.cell? ⟨(ad.add (m * 8)).block, (ad.add (m * 8)).off + 6, none⟩ = some (.int .i64 x.f5) ∧ w'.cell? ⟨(ad.add (m * 8)).block, (ad.add (m * 8)).off + 7, none⟩ = some (.int .i64 x.f6) ∧ w'.cell? ⟨w.heap.size, 0, none⟩ = some (.int .u32 q0) ∧ w'.cell? ⟨w.heap.size, 1, none⟩ = some (.string q1) ∧ Below w.heap.size w w') (by kernel_rfl) (⟨c0, c1, c2, c3, c4, c5, c6, c7, b0, b1, hb.drew⟩) (fun hHeld => ?_)
        refine wpAnyH_take (i := 0) (oi := { dst := some 24, op := Op.move (Operand.tmp 2), type := 97, pos := "sort.go:160", after := #[], guard := none }) (v := ?vr1_0) rfl (by kernel_rfl) (by kernel_rfl) (by kernel_rfl) (fun _ _ _ h => h) (Or.inl ⟨by rfl, ?hyr1_0⟩) (by assumption) ?restr1_0
        case hyr1_0 => (intro wS hS; (try dsimp only at hS); go_simp; (try with_reducible rfl))
        (try simp only [Act.put, List.setIfInBounds_toArray, List.set_cons_zero, List.set_cons_succ])
        refine wpAnyH_take (i := 1) (oi := { dst := some 25, op := Op.move (Operand.tmp 0), type := 22, pos := "sort.go:160", after := #[], guard := none }) (v := ?vr1_1) rfl (by kernel_rfl) (by kernel_rfl) (by kernel_rfl) (fun _ _ _ h => h) (Or.inl ⟨by rfl, ?hyr1_1⟩) (by assumption) ?restr1_1
        case hyr1_1 => (intro wS hS; (try dsimp only at hS); go_simp; (try with_reducible rfl))
        (try simp only [Act.put, List.setIfInBounds_toArray, List.set_cons_zero, List.set_cons_succ])
        refine wpAnyH_take (i := 2) (oi := { dst := some 26, op := Op.move (Operand.tmp 11), type := 3, pos := "sort.go:160", after := #[], guard := none }) (v := ?vr1_2) rfl (by kernel_rfl) (by kernel_rfl) (by kernel_rfl) (fun _ _ _ h => h) (Or.inl ⟨by rfl, ?hyr1_2⟩) (by assumption) ?restr1_2
        case hyr1_2 => (intro wS hS; (try dsimp only at hS); go_simp; (try with_reducible rfl))
        (try simp only [Act.put, List.setIfInBounds_toArray, List.set_cons_zero, List.set_cons_succ])
        refine wpAnyH_take (i := 3) (oi := { dst := some 27, op := Op.indexAddr 22 (Operand.tmp 25) (Operand.tmp 26), type := 0, pos := "sort.go:160", after := #[{ on := 1, ground := Ground.data }, { on := 2, ground := Ground.data }], guard := none }) (v := ?vr1_3) rfl (by kernel_rfl) (by kernel_rfl) (by kernel_rfl) (fun _ _ _ h => h) (Or.inl ⟨by rfl, ?hyr1_3⟩) (by assumption) ?restr1_3
        case hyr1_3 => (intro wS hS; (try dsimp only at hS); go_simp; (try with_reducible rfl))
        (try simp only [Act.put, List.setIfInBounds_toArray, List.set_cons_zero, List.set_cons_succ])
        refine wpAnyH_take (i := 4) (oi := { dst := some 28, op := Op.load 28 (Operand.tmp 27), type := 28, pos := "sort.go:160", after := #[{ on := 3, ground := Ground.data }], guard := none }) (v := ?vr1_4) rfl (by kernel_rfl) (by kernel_rfl) (by kernel_rfl) (fun _ _ _ h => h) (Or.inl ⟨by rfl, ?hyr1_4⟩) (by assumption) ?restr1_4
        case hyr1_4 => (intro wS hS; (try dsimp only at hS); go_simp; (try with_reducible rfl))
        (try simp only [Act.put, List.setIfInBounds_toArray, List.set_cons_zero, List.set_cons_succ])
        refine wpAnyH_take (i := 5) (oi := { dst := some 29, op := Op.load 25 (Operand.tmp 4), type := 25, pos := "sort.go:160", after := #[], guard := none }) (v := ?vr1_5) rfl (by kernel_rfl) (by kernel_rfl) (by kernel_rfl) (fun _ _ _ h => h) (Or.inl ⟨by rfl, ?hyr1_5⟩) (by assumption) ?restr1_5
        case hyr1_5 => (intro wS hS; (try dsimp only at hS); go_simp; (try with_reducible rfl))
        (try simp only [Act.put, List.setIfInBounds_toArray, List.set_cons_zero, List.set_cons_succ])
        refine wpAnyH_ready (rs := [6]) (by kernel_rfl) (by simp) (AllReadyH.cons (o := { dst := some 30, op := Op.call { callee := Callee.value (Operand.tmp 24), args := #[Operand.tmp 28, Operand.tmp 29], argTypes := #[28, 25] }, type := 3, pos := "sort.go:160", after := #[{ on := 0, ground := Ground.data }, { on := 4, ground := Ground.data }, { on := 5, ground := Ground.data }], guard := none }) rfl (fun K hK => ?_) AllReadyH.nil)
        go_simp
        refine (place_cmp x ⟨q0, q1⟩ o HO.out _).mono ?_
        rintro e wz ⟨rfl, hbz⟩
        refine hK.out _ _ ⟨cell_below hbz hHeld.1, cell_below hbz hHeld.2.1, cell_below hbz hHeld.2.2.1, cell_below hbz hHeld.2.2.2.1, cell_below hbz hHeld.2.2.2.2.1, cell_below hbz hHeld.2.2.2.2.2.1, cell_below hbz hHeld.2.2.2.2.2.2.1, cell_below hbz hHeld.2.2.2.2.2.2.2.1, cell_below hbz hHeld.2.2.2.2.2.2.2.2.1, cell_below hbz hHeld.2.2.2.2.2.2.2.2.2.1, below_next hHeld.2.2.2.2.2.2.2.2.2.2 hbz⟩ (fun hHeld' => ?_)
        clear hHeld hbz
        have hHeld := hHeld'
        clear hHeld'
        clear hK K
        (try simp only [Act.put, List.setIfInBounds_toArray, List.set_cons_zero, List.set_cons_succ])
        refine wpAnyH_take (i := 7) (oi := { dst := some 31, op := Op.binOp BinOp.lss 3 (Operand.tmp 30) (Operand.const (Value.int IntKind.i64 0)) 3, type := 4, pos := "sort.go:160", after := #[{ on := 6, ground := Ground.data }], guard := none }) (v := .bool true) rfl (by kernel_rfl) (by kernel_rfl) (by kernel_rfl) (fun _ _ _ h => h) (Or.inl ⟨by rfl, ?hyr1_7⟩) (by assumption) ?restr1_7
        case hyr1_7 => (intro wS hS; (try dsimp only at hS); rw [← hgo]; go_simp; (try with_reducible rfl))
        (try simp only [Act.put, List.setIfInBounds_toArray, List.set_cons_zero, List.set_cons_succ])
        refine wpAnyH_done (by kernel_rfl) ?_ _
        go_wp2
        go_roundw
        case rel => exact ⟨m + 1, hi, by go_num, rfl, by omega, hhi, hnew, HH, hHeld.2.2.2.2.2.2.2.2.1, hHeld.2.2.2.2.2.2.2.2.2.1, hHeld.2.2.2.2.2.2.2.2.2.2⟩
        case measure => simp [intOf]; omega
      · have hgo : decide (o < 0) = false := by simp; omega
        have hnew := Sealed.mk (half_next HI.out (hi := hi) hml (q := ⟨q0, q1⟩) (by rw [HX.out, HO.out]; omega))
        clear hneg
        go_wp2_with fail
        refine wp_region_held_drew (S := fun w' => w'.cell? (ad.add (m * 8)) = some (.int .u32 x.f0.f0) ∧ w'.cell? ⟨(ad.add (m * 8)).block, (ad.add (m * 8)).off + 1, none⟩ = some (.string x.f0.f1) ∧ w'.cell? ⟨(ad.add (m * 8)).block, (ad.add (m * 8)).off + 2, none⟩ = some (.int .i64 x.f1) ∧ w'.cell? ⟨(ad.add (m * 8)).block, (ad.add (m * 8)).off + 3, none⟩ = some (.string x.f2) ∧ w'.cell? ⟨(ad.add (m * 8)).block, (ad.add (m * 8)).off + 4, none⟩ = some (.int .u64 x.f3) ∧ w'.cell? ⟨(ad.add (m * 8)).block, (ad.add (m * 8)).off + 5, none⟩ = some (.string x.f4) ∧ w'.cell? ⟨(ad.add (m * 8)).block, (ad.add (m * 8)).off + 6, none⟩ = some (.int .i64 x.f5) ∧ w'.cell? ⟨(ad.add (m * 8)).block, (ad.add (m * 8)).off + 7, none⟩ = some (.int .i64 x.f6) ∧ w'.cell? ⟨w.heap.size, 0, none⟩ = some (.int .u32 q0) ∧ w'.cell? ⟨w.heap.size, 1, none⟩ = some (.string q1) ∧ Below w.heap.size w w') (by kernel_rfl) (⟨c0, c1, c2, c3, c4, c5, c6, c7, b0, b1, hb.drew⟩) (fun hHeld => ?_)
        refine wpAnyH_take (i := 0) (oi := { dst := some 24, op := Op.move (Operand.tmp 2), type := 97, pos := "sort.go:160", after := #[], guard := none }) (v := ?vr2_0) rfl (by kernel_rfl) (by kernel_rfl) (by kernel_rfl) (fun _ _ _ h => h) (Or.inl ⟨by rfl, ?hyr2_0⟩) (by assumption) ?restr2_0
        case hyr2_0 => (intro wS hS; (try dsimp only at hS); go_simp; (try with_reducible rfl))
        (try simp only [Act.put, List.setIfInBounds_toArray, List.set_cons_zero, List.set_cons_succ])
        refine wpAnyH_take (i := 1) (oi := { dst := some 25, op := Op.move (Operand.tmp 0), type := 22, pos := "sort.go:160", after := #[], guard := none }) (v := ?vr2_1) rfl (by kernel_rfl) (by kernel_rfl) (by kernel_rfl) (fun _ _ _ h => h) (Or.inl ⟨by rfl, ?hyr2_1⟩) (by assumption) ?restr2_1
        case hyr2_1 => (intro wS hS; (try dsimp only at hS); go_simp; (try with_reducible rfl))
        (try simp only [Act.put, List.setIfInBounds_toArray, List.set_cons_zero, List.set_cons_succ])
        refine wpAnyH_take (i := 2) (oi := { dst := some 26, op := Op.move (Operand.tmp 11), type := 3, pos := "sort.go:160", after := #[], guard := none }) (v := ?vr2_2) rfl (by kernel_rfl) (by kernel_rfl) (by kernel_rfl) (fun _ _ _ h => h) (Or.inl ⟨by rfl, ?hyr2_2⟩) (by assumption) ?restr2_2
        case hyr2_2 => (intro wS hS; (try dsimp only at hS); go_simp; (try with_reducible rfl))
        (try simp only [Act.put, List.setIfInBounds_toArray, List.set_cons_zero, List.set_cons_succ])
        refine wpAnyH_take (i := 3) (oi := { dst := some 27, op := Op.indexAddr 22 (Operand.tmp 25) (Operand.tmp 26), type := 0, pos := "sort.go:160", after := #[{ on := 1, ground := Ground.data }, { on := 2, ground := Ground.data }], guard := none }) (v := ?vr2_3) rfl (by kernel_rfl) (by kernel_rfl) (by kernel_rfl) (fun _ _ _ h => h) (Or.inl ⟨by rfl, ?hyr2_3⟩) (by assumption) ?restr2_3
        case hyr2_3 => (intro wS hS; (try dsimp only at hS); go_simp; (try with_reducible rfl))
        (try simp only [Act.put, List.setIfInBounds_toArray, List.set_cons_zero, List.set_cons_succ])
        refine wpAnyH_take (i := 4) (oi := { dst := some 28, op := Op.load 28 (Operand.tmp 27), type := 28, pos := "sort.go:160", after := #[{ on := 3, ground := Ground.data }], guard := none }) (v := ?vr2_4) rfl (by kernel_rfl) (by kernel_rfl) (by kernel_rfl) (fun _ _ _ h => h) (Or.inl ⟨by rfl, ?hyr2_4⟩) (by assumption) ?restr2_4
        case hyr2_4 => (intro wS hS; (try dsimp only at hS); go_simp; (try with_reducible rfl))
        (try simp only [Act.put, List.setIfInBounds_toArray, List.set_cons_zero, List.set_cons_succ])
        refine wpAnyH_take (i := 5) (oi := { dst := some 29, op := Op.load 25 (Operand.tmp 4), type := 25, pos := "sort.go:160", after := #[], guard := none }) (v := ?vr2_5) rfl (by kernel_rfl) (by kernel_rfl) (by kernel_rfl) (fun _ _ _ h => h) (Or.inl ⟨by rfl, ?hyr2_5⟩) (by assumption) ?restr2_5
        case hyr2_5 => (intro wS hS; (try dsimp only at hS); go_simp; (try with_reducible rfl))
        (try simp only [Act.put, List.setIfInBounds_toArray, List.set_cons_zero, List.set_cons_succ])
        refine wpAnyH_ready (rs := [6]) (by kernel_rfl) (by simp) (AllReadyH.cons (o := { dst := some 30, op := Op.call { callee := Callee.value (Operand.tmp 24), args := #[Operand.tmp 28, Operand.tmp 29], argTypes := #[28, 25] }, type := 3, pos := "sort.go:160", after := #[{ on := 0, ground := Ground.data }, { on := 4, ground := Ground.data }, { on := 5, ground := Ground.data }], guard := none }) rfl (fun K hK => ?_) AllReadyH.nil)
        go_simp
        refine (place_cmp x ⟨q0, q1⟩ o HO.out _).mono ?_
        rintro e wz ⟨rfl, hbz⟩
        refine hK.out _ _ ⟨cell_below hbz hHeld.1, cell_below hbz hHeld.2.1, cell_below hbz hHeld.2.2.1, cell_below hbz hHeld.2.2.2.1, cell_below hbz hHeld.2.2.2.2.1, cell_below hbz hHeld.2.2.2.2.2.1, cell_below hbz hHeld.2.2.2.2.2.2.1, cell_below hbz hHeld.2.2.2.2.2.2.2.1, cell_below hbz hHeld.2.2.2.2.2.2.2.2.1, cell_below hbz hHeld.2.2.2.2.2.2.2.2.2.1, below_next hHeld.2.2.2.2.2.2.2.2.2.2 hbz⟩ (fun hHeld' => ?_)
        clear hHeld hbz
        have hHeld := hHeld'
        clear hHeld'
        clear hK K
        (try simp only [Act.put, List.setIfInBounds_toArray, List.set_cons_zero, List.set_cons_succ])
        refine wpAnyH_take (i := 7) (oi := { dst := some 31, op := Op.binOp BinOp.lss 3 (Operand.tmp 30) (Operand.const (Value.int IntKind.i64 0)) 3, type := 4, pos := "sort.go:160", after := #[{ on := 6, ground := Ground.data }], guard := none }) (v := .bool false) rfl (by kernel_rfl) (by kernel_rfl) (by kernel_rfl) (fun _ _ _ h => h) (Or.inl ⟨by rfl, ?hyr2_7⟩) (by assumption) ?restr2_7
        case hyr2_7 => (intro wS hS; (try dsimp only at hS); rw [← hgo]; go_simp; (try with_reducible rfl))
        (try simp only [Act.put, List.setIfInBounds_toArray, List.set_cons_zero, List.set_cons_succ])
        refine wpAnyH_done (by kernel_rfl) ?_ _
        go_wp2
        go_roundw
        case rel => exact ⟨lo, m, rfl, rfl, by omega, by omega, HL, hnew, hHeld.2.2.2.2.2.2.2.2.1, hHeld.2.2.2.2.2.2.2.2.2.1, hHeld.2.2.2.2.2.2.2.2.2.2⟩
        case measure => simp [intOf]; omega
    · obtain rfl : lo = hi := by omega
      have hat : At (c := ordK) (κ := κE) l ⟨q0, q1⟩ lo := ⟨hhi, HL.out, HH.out⟩
      have HA := Sealed.mk hat
      clear hat
      by_cases hlo : lo < l.length
      · have hgo : decide ((lo : Int) < (l.length : Int)) = true := by simp; omega
        obtain ⟨ad, rfl, c0, c1, c2, c3, c4, c5, c6, c7⟩ := at_e HR.out rfl lo hlo
        replace c0 := cell_below hb c0
        replace c1 := cell_below hb c1
        replace c2 := cell_below hb c2
        replace c3 := cell_below hb c3
        replace c4 := cell_below hb c4
        replace c5 := cell_below hb c5
        replace c6 := cell_below hb c6
        replace c7 := cell_below hb c7
        obtain ⟨x, hxe⟩ : ∃ x, l[lo] = x := ⟨_, rfl⟩
        rw [hxe] at c0 c1 c2 c3 c4 c5 c6 c7
        obtain ⟨o, ho⟩ : ∃ o, ordK x.f0 ⟨q0, q1⟩ = o := ⟨_, rfl⟩
        have hsee : seenAt l ⟨q0, q1⟩ lo = (o == 0) := by unfold seenAt; rw [List.getElem?_eq_getElem hlo, hxe]; show decide (ordK x.f0 ⟨q0, q1⟩ = 0) = _; rw [ho]; rfl
        have HSE := Sealed.mk hsee
        have HO := Sealed.mk ho
        clear ho hsee hxe
        go_wp2_with fail
        refine wp_region_held_drew (S := fun w' => w'.cell? (ad.add (lo * 8)) = some (.int .u32 x.f0.f0) ∧ w'.cell? ⟨(ad.add (lo * 8)).block, (ad.add (lo * 8)).off + 1, none⟩ = some (.string x.f0.f1) ∧ w'.cell? ⟨(ad.add (lo * 8)).block, (ad.add (lo * 8)).off + 2, none⟩ = some (.int .i64 x.f1) ∧ w'.cell? ⟨(ad.add (lo * 8)).block, (ad.add (lo * 8)).off + 3, none⟩ = some (.string x.f2) ∧ w'.cell? ⟨(ad.add (lo * 8)).block, (ad.add (lo * 8)).off + 4, none⟩ = some (.int .u64 x.f3) ∧ w'.cell? ⟨(ad.add (lo * 8)).block, (ad.add (lo * 8)).off + 5, none⟩ = some (.string x.f4) ∧ w'.cell? ⟨(ad.add (lo * 8)).block, (ad.add (lo * 8)).off + 6, none⟩ = some (.int .i64 x.f5) ∧ w'.cell? ⟨(ad.add (lo * 8)).block, (ad.add (lo * 8)).off + 7, none⟩ = some (.int .i64 x.f6) ∧ w'.cell? ⟨w.heap.size, 0, none⟩ = some (.int .u32 q0) ∧ w'.cell? ⟨w.heap.size, 1, none⟩ = some (.string q1) ∧ Below w.heap.size w w') (by kernel_rfl) (⟨c0, c1, c2, c3, c4, c5, c6, c7, b0, b1, hb.drew⟩) (fun hHeld => ?_)
        refine wpAnyH_take (i := 0) (oi := { dst := some 35, op := Op.move (Operand.tmp 9), type := 3, pos := "sort.go:167", after := #[], guard := none }) (v := ?vr3_0) rfl (by kernel_rfl) (by kernel_rfl) (by kernel_rfl) (fun _ _ _ h => h) (Or.inl ⟨by rfl, ?hyr3_0⟩) (by assumption) ?restr3_0
        case hyr3_0 => (intro wS hS; (try dsimp only at hS); go_simp; (try with_reducible rfl))
        (try simp only [Act.put, List.setIfInBounds_toArray, List.set_cons_zero, List.set_cons_succ])
        refine wpAnyH_take (i := 1) (oi := { dst := some 36, op := Op.move (Operand.tmp 9), type := 3, pos := "sort.go:167", after := #[], guard := none }) (v := ?vr3_1) rfl (by kernel_rfl) (by kernel_rfl) (by kernel_rfl) (fun _ _ _ h => h) (Or.inl ⟨by rfl, ?hyr3_1⟩) (by assumption) ?restr3_1
        case hyr3_1 => (intro wS hS; (try dsimp only at hS); go_simp; (try with_reducible rfl))
        (try simp only [Act.put, List.setIfInBounds_toArray, List.set_cons_zero, List.set_cons_succ])
        refine wpAnyH_take (i := 2) (oi := { dst := some 37, op := Op.move (Operand.tmp 8), type := 3, pos := "sort.go:167", after := #[], guard := none }) (v := ?vr3_2) rfl (by kernel_rfl) (by kernel_rfl) (by kernel_rfl) (fun _ _ _ h => h) (Or.inl ⟨by rfl, ?hyr3_2⟩) (by assumption) ?restr3_2
        case hyr3_2 => (intro wS hS; (try dsimp only at hS); go_simp; (try with_reducible rfl))
        (try simp only [Act.put, List.setIfInBounds_toArray, List.set_cons_zero, List.set_cons_succ])
        refine wpAnyH_take (i := 3) (oi := { dst := some 38, op := Op.binOp BinOp.lss 3 (Operand.tmp 36) (Operand.tmp 37) 3, type := 4, pos := "sort.go:167", after := #[{ on := 1, ground := Ground.data }, { on := 2, ground := Ground.data }], guard := none }) (v := .bool true) rfl (by kernel_rfl) (by kernel_rfl) (by kernel_rfl) (fun _ _ _ h => h) (Or.inl ⟨by rfl, ?hyr3_3⟩) (by assumption) ?restr3_3
        case hyr3_3 => (intro wS hS; (try dsimp only at hS); rw [← hgo]; go_simp; (try with_reducible rfl))
        (try simp only [Act.put, List.setIfInBounds_toArray, List.set_cons_zero, List.set_cons_succ])
        refine wpAnyH_take (i := 4) (oi := { dst := some 39, op := Op.move (Operand.tmp 38), type := 4, pos := "sort.go:167", after := #[{ on := 3, ground := Ground.data }], guard := none }) (v := ?vr3_4) rfl (by kernel_rfl) (by kernel_rfl) (by kernel_rfl) (fun _ _ _ h => h) (Or.inl ⟨by rfl, ?hyr3_4⟩) (by assumption) ?restr3_4
        case hyr3_4 => (intro wS hS; (try dsimp only at hS); go_simp; (try with_reducible rfl))
        (try simp only [Act.put, List.setIfInBounds_toArray, List.set_cons_zero, List.set_cons_succ])
        refine wpAnyH_take (i := 5) (oi := { dst := some 40, op := Op.move (Operand.tmp 2), type := 97, pos := "sort.go:167", after := #[{ on := 4, ground := Ground.guard }], guard := some (4, true) }) (v := ?vr3_5) rfl (by kernel_rfl) (by kernel_rfl) (by kernel_rfl) (fun _ _ _ h => h) (Or.inl ⟨by rfl, ?hyr3_5⟩) (by assumption) ?restr3_5
        case hyr3_5 => (intro wS hS; (try dsimp only at hS); go_simp; (try with_reducible rfl))
        (try simp only [Act.put, List.setIfInBounds_toArray, List.set_cons_zero, List.set_cons_succ])
        refine wpAnyH_take (i := 6) (oi := { dst := some 41, op := Op.move (Operand.tmp 0), type := 22, pos := "sort.go:167", after := #[{ on := 4, ground := Ground.guard }], guard := some (4, true) }) (v := ?vr3_6) rfl (by kernel_rfl) (by kernel_rfl) (by kernel_rfl) (fun _ _ _ h => h) (Or.inl ⟨by rfl, ?hyr3_6⟩) (by assumption) ?restr3_6
        case hyr3_6 => (intro wS hS; (try dsimp only at hS); go_simp; (try with_reducible rfl))
        (try simp only [Act.put, List.setIfInBounds_toArray, List.set_cons_zero, List.set_cons_succ])
        refine wpAnyH_take (i := 7) (oi := { dst := some 42, op := Op.move (Operand.tmp 9), type := 3, pos := "sort.go:167", after := #[{ on := 4, ground := Ground.guard }], guard := some (4, true) }) (v := ?vr3_7) rfl (by kernel_rfl) (by kernel_rfl) (by kernel_rfl) (fun _ _ _ h => h) (Or.inl ⟨by rfl, ?hyr3_7⟩) (by assumption) ?restr3_7
        case hyr3_7 => (intro wS hS; (try dsimp only at hS); go_simp; (try with_reducible rfl))
        (try simp only [Act.put, List.setIfInBounds_toArray, List.set_cons_zero, List.set_cons_succ])
        refine wpAnyH_take (i := 8) (oi := { dst := some 43, op := Op.indexAddr 22 (Operand.tmp 41) (Operand.tmp 42), type := 0, pos := "sort.go:167", after := #[{ on := 6, ground := Ground.data }, { on := 7, ground := Ground.data }, { on := 4, ground := Ground.guard }], guard := some (4, true) }) (v := ?vr3_8) rfl (by kernel_rfl) (by kernel_rfl) (by kernel_rfl) (fun _ _ _ h => h) (Or.inl ⟨by rfl, ?hyr3_8⟩) (by assumption) ?restr3_8
        case hyr3_8 => (intro wS hS; (try dsimp only at hS); go_simp; (try with_reducible rfl))
        (try simp only [Act.put, List.setIfInBounds_toArray, List.set_cons_zero, List.set_cons_succ])
        refine wpAnyH_take (i := 9) (oi := { dst := some 44, op := Op.load 28 (Operand.tmp 43), type := 28, pos := "sort.go:167", after := #[{ on := 8, ground := Ground.data }, { on := 4, ground := Ground.guard }], guard := some (4, true) }) (v := ?vr3_9) rfl (by kernel_rfl) (by kernel_rfl) (by kernel_rfl) (fun _ _ _ h => h) (Or.inl ⟨by rfl, ?hyr3_9⟩) (by assumption) ?restr3_9
        case hyr3_9 => (intro wS hS; (try dsimp only at hS); go_simp; (try with_reducible rfl))
        (try simp only [Act.put, List.setIfInBounds_toArray, List.set_cons_zero, List.set_cons_succ])
        refine wpAnyH_take (i := 10) (oi := { dst := some 45, op := Op.load 25 (Operand.tmp 4), type := 25, pos := "sort.go:167", after := #[{ on := 4, ground := Ground.guard }], guard := some (4, true) }) (v := ?vr3_10) rfl (by kernel_rfl) (by kernel_rfl) (by kernel_rfl) (fun _ _ _ h => h) (Or.inl ⟨by rfl, ?hyr3_10⟩) (by assumption) ?restr3_10
        case hyr3_10 => (intro wS hS; (try dsimp only at hS); go_simp; (try with_reducible rfl))
        (try simp only [Act.put, List.setIfInBounds_toArray, List.set_cons_zero, List.set_cons_succ])
        refine wpAnyH_ready (rs := [11]) (by kernel_rfl) (by simp) (AllReadyH.cons (o := { dst := some 46, op := Op.call { callee := Callee.value (Operand.tmp 40), args := #[Operand.tmp 44, Operand.tmp 45], argTypes := #[28, 25] }, type := 3, pos := "sort.go:167", after := #[{ on := 5, ground := Ground.data }, { on := 9, ground := Ground.data }, { on := 10, ground := Ground.data }, { on := 4, ground := Ground.chain }, { on := 4, ground := Ground.guard }], guard := some (4, true) }) rfl (fun K hK => ?_) AllReadyH.nil)
        go_simp
        refine (place_cmp x ⟨q0, q1⟩ o HO.out _).mono ?_
        rintro e wz ⟨rfl, hbz⟩
        refine hK.out _ _ ⟨cell_below hbz hHeld.1, cell_below hbz hHeld.2.1, cell_below hbz hHeld.2.2.1, cell_below hbz hHeld.2.2.2.1, cell_below hbz hHeld.2.2.2.2.1, cell_below hbz hHeld.2.2.2.2.2.1, cell_below hbz hHeld.2.2.2.2.2.2.1, cell_below hbz hHeld.2.2.2.2.2.2.2.1, cell_below hbz hHeld.2.2.2.2.2.2.2.2.1, cell_below hbz hHeld.2.2.2.2.2.2.2.2.2.1, below_next hHeld.2.2.2.2.2.2.2.2.2.2 hbz⟩ (fun hHeld' => ?_)
        clear hHeld hbz
        have hHeld := hHeld'
        clear hHeld'
        clear hK K
        (try simp only [Act.put, List.setIfInBounds_toArray, List.set_cons_zero, List.set_cons_succ])
        refine wpAnyH_take (i := 12) (oi := { dst := some 47, op := Op.binOp BinOp.eql 3 (Operand.tmp 46) (Operand.const (Value.int IntKind.i64 0)) 3, type := 4, pos := "sort.go:167", after := #[{ on := 11, ground := Ground.data }, { on := 4, ground := Ground.guard }, { on := 14, ground := Ground.gcOnly Departure.lateStores }], guard := some (4, true) }) (v := ?vr3_12) rfl (by kernel_rfl) (by kernel_rfl) (by kernel_rfl) (fun _ _ _ h => h) (Or.inl ⟨by rfl, ?hyr3_12⟩) (by assumption) ?restr3_12
        case hyr3_12 => (intro wS hS; (try dsimp only at hS); go_simp; (try with_reducible rfl))
        (try simp only [Act.put, List.setIfInBounds_toArray, List.set_cons_zero, List.set_cons_succ])
        refine wpAnyH_take (i := 13) (oi := { dst := some 48, op := Op.pick (Operand.tmp 39) (Operand.tmp 47) (Operand.const (Value.bool false)), type := 4, pos := "sort.go:167", after := #[{ on := 4, ground := Ground.data }, { on := 12, ground := Ground.data }, { on := 14, ground := Ground.gcOnly Departure.lateStores }], guard := none }) (v := ?vr3_13) rfl (by kernel_rfl) (by kernel_rfl) (by kernel_rfl) (fun _ _ _ h => h) (Or.inl ⟨by rfl, ?hyr3_13⟩) (by assumption) ?restr3_13
        case hyr3_13 => (intro wS hS; (try dsimp only at hS); go_simp; (try with_reducible rfl))
        (try simp only [Act.put, List.setIfInBounds_toArray, List.set_cons_zero, List.set_cons_succ])
        refine wpAnyH_take (i := 14) (oi := { dst := some 6, op := Op.assign (Operand.tmp 35), type := 3, pos := "sort.go:167", after := #[{ on := 0, ground := Ground.data }, { on := 11, ground := Ground.chain }, { on := 0, ground := Ground.phase }, { on := 1, ground := Ground.textOnly Departure.lateStores }, { on := 2, ground := Ground.textOnly Departure.lateStores }, { on := 3, ground := Ground.textOnly Departure.lateStores }, { on := 4, ground := Ground.textOnly Departure.lateStores }, { on := 5, ground := Ground.textOnly Departure.lateStores }, { on := 6, ground := Ground.textOnly Departure.lateStores }, { on := 7, ground := Ground.textOnly Departure.lateStores }, { on := 8, ground := Ground.textOnly Departure.lateStores }, { on := 9, ground := Ground.textOnly Departure.lateStores }, { on := 10, ground := Ground.textOnly Departure.lateStores }, { on := 11, ground := Ground.textOnly Departure.lateStoresUnsure }, { on := 12, ground := Ground.textOnly Departure.lateStores }, { on := 13, ground := Ground.textOnly Departure.lateStores }], guard := none }) (v := ?vr3_14) rfl (by kernel_rfl) (by kernel_rfl) (by kernel_rfl) (fun _ _ _ h => h) (Or.inl ⟨by rfl, ?hyr3_14⟩) (by assumption) ?restr3_14
        case hyr3_14 => (intro wS hS; (try dsimp only at hS); go_simp; (try with_reducible rfl))
        (try simp only [Act.put, List.setIfInBounds_toArray, List.set_cons_zero, List.set_cons_succ])
        refine wpAnyH_take (i := 15) (oi := { dst := some 7, op := Op.assign (Operand.tmp 48), type := 4, pos := "sort.go:167", after := #[{ on := 13, ground := Ground.data }, { on := 14, ground := Ground.chain }, { on := 0, ground := Ground.phase }, { on := 1, ground := Ground.phase }, { on := 2, ground := Ground.phase }, { on := 3, ground := Ground.phase }, { on := 4, ground := Ground.phase }, { on := 5, ground := Ground.phase }, { on := 6, ground := Ground.phase }, { on := 7, ground := Ground.phase }, { on := 8, ground := Ground.phase }, { on := 9, ground := Ground.phase }, { on := 10, ground := Ground.phase }, { on := 11, ground := Ground.phase }, { on := 12, ground := Ground.phase }, { on := 13, ground := Ground.phase }, { on := 14, ground := Ground.phase }], guard := none }) (v := ?vr3_15) rfl (by kernel_rfl) (by kernel_rfl) (by kernel_rfl) (fun _ _ _ h => h) (Or.inl ⟨by rfl, ?hyr3_15⟩) (by assumption) ?restr3_15
        case hyr3_15 => (intro wS hS; (try dsimp only at hS); go_simp; (try with_reducible rfl))
        (try simp only [Act.put, List.setIfInBounds_toArray, List.set_cons_zero, List.set_cons_succ])
        refine wpAnyH_done (by kernel_rfl) ?_ _
        go_wp2
        refine bodyPost_ret (v := .tuple #[.int .i64 (lo : Int), .bool (o == 0)]) (by simp [results, Tryd.results61, go_sem]) rfl ?_
        exact ⟨lo, HA.out, by rw [HSE.out], hHeld.2.2.2.2.2.2.2.2.2.2⟩
      · have hgo : decide ((lo : Int) < (l.length : Int)) = false := by simp; omega
        have hsee : seenAt l ⟨q0, q1⟩ lo = false := by unfold seenAt; rw [List.getElem?_eq_none (by omega)]
        have HSE := Sealed.mk hsee
        clear hsee
        go_wp2_with fail
        refine wp_region_held_drew (S := fun w' => Below w.heap.size w w') (by kernel_rfl) (hb.drew) (fun hHeld => ?_)
        refine wpAnyH_take (i := 0) (oi := { dst := some 35, op := Op.move (Operand.tmp 9), type := 3, pos := "sort.go:167", after := #[], guard := none }) (v := ?vr4_0) rfl (by kernel_rfl) (by kernel_rfl) (by kernel_rfl) (fun _ _ _ h => h) (Or.inl ⟨by rfl, ?hyr4_0⟩) (by assumption) ?restr4_0
        case hyr4_0 => (intro wS hS; (try dsimp only at hS); go_simp; (try with_reducible rfl))
        (try simp only [Act.put, List.setIfInBounds_toArray, List.set_cons_zero, List.set_cons_succ])
        refine wpAnyH_take (i := 1) (oi := { dst := some 36, op := Op.move (Operand.tmp 9), type := 3, pos := "sort.go:167", after := #[], guard := none }) (v := ?vr4_1) rfl (by kernel_rfl) (by kernel_rfl) (by kernel_rfl) (fun _ _ _ h => h) (Or.inl ⟨by rfl, ?hyr4_1⟩) (by assumption) ?restr4_1
        case hyr4_1 => (intro wS hS; (try dsimp only at hS); go_simp; (try with_reducible rfl))
        (try simp only [Act.put, List.setIfInBounds_toArray, List.set_cons_zero, List.set_cons_succ])
        refine wpAnyH_take (i := 2) (oi := { dst := some 37, op := Op.move (Operand.tmp 8), type := 3, pos := "sort.go:167", after := #[], guard := none }) (v := ?vr4_2) rfl (by kernel_rfl) (by kernel_rfl) (by kernel_rfl) (fun _ _ _ h => h) (Or.inl ⟨by rfl, ?hyr4_2⟩) (by assumption) ?restr4_2
        case hyr4_2 => (intro wS hS; (try dsimp only at hS); go_simp; (try with_reducible rfl))
        (try simp only [Act.put, List.setIfInBounds_toArray, List.set_cons_zero, List.set_cons_succ])
        refine wpAnyH_take (i := 3) (oi := { dst := some 38, op := Op.binOp BinOp.lss 3 (Operand.tmp 36) (Operand.tmp 37) 3, type := 4, pos := "sort.go:167", after := #[{ on := 1, ground := Ground.data }, { on := 2, ground := Ground.data }], guard := none }) (v := .bool false) rfl (by kernel_rfl) (by kernel_rfl) (by kernel_rfl) (fun _ _ _ h => h) (Or.inl ⟨by rfl, ?hyr4_3⟩) (by assumption) ?restr4_3
        case hyr4_3 => (intro wS hS; (try dsimp only at hS); rw [← hgo]; go_simp; (try with_reducible rfl))
        (try simp only [Act.put, List.setIfInBounds_toArray, List.set_cons_zero, List.set_cons_succ])
        refine wpAnyH_take (i := 4) (oi := { dst := some 39, op := Op.move (Operand.tmp 38), type := 4, pos := "sort.go:167", after := #[{ on := 3, ground := Ground.data }], guard := none }) (v := ?vr4_4) rfl (by kernel_rfl) (by kernel_rfl) (by kernel_rfl) (fun _ _ _ h => h) (Or.inl ⟨by rfl, ?hyr4_4⟩) (by assumption) ?restr4_4
        case hyr4_4 => (intro wS hS; (try dsimp only at hS); go_simp; (try with_reducible rfl))
        (try simp only [Act.put, List.setIfInBounds_toArray, List.set_cons_zero, List.set_cons_succ])
        refine wpAnyH_take (i := 5) (oi := { dst := some 40, op := Op.move (Operand.tmp 2), type := 97, pos := "sort.go:167", after := #[{ on := 4, ground := Ground.guard }], guard := some (4, true) }) (v := undef) rfl (by kernel_rfl) (by kernel_rfl) (by kernel_rfl) (fun _ _ _ h => h) (Or.inr ⟨by rfl, rfl⟩) (by assumption) ?_
        (try simp only [Act.put, List.setIfInBounds_toArray, List.set_cons_zero, List.set_cons_succ])
        refine wpAnyH_take (i := 6) (oi := { dst := some 41, op := Op.move (Operand.tmp 0), type := 22, pos := "sort.go:167", after := #[{ on := 4, ground := Ground.guard }], guard := some (4, true) }) (v := undef) rfl (by kernel_rfl) (by kernel_rfl) (by kernel_rfl) (fun _ _ _ h => h) (Or.inr ⟨by rfl, rfl⟩) (by assumption) ?_
        (try simp only [Act.put, List.setIfInBounds_toArray, List.set_cons_zero, List.set_cons_succ])
        refine wpAnyH_take (i := 7) (oi := { dst := some 42, op := Op.move (Operand.tmp 9), type := 3, pos := "sort.go:167", after := #[{ on := 4, ground := Ground.guard }], guard := some (4, true) }) (v := undef) rfl (by kernel_rfl) (by kernel_rfl) (by kernel_rfl) (fun _ _ _ h => h) (Or.inr ⟨by rfl, rfl⟩) (by assumption) ?_
        (try simp only [Act.put, List.setIfInBounds_toArray, List.set_cons_zero, List.set_cons_succ])
        refine wpAnyH_take (i := 8) (oi := { dst := some 43, op := Op.indexAddr 22 (Operand.tmp 41) (Operand.tmp 42), type := 0, pos := "sort.go:167", after := #[{ on := 6, ground := Ground.data }, { on := 7, ground := Ground.data }, { on := 4, ground := Ground.guard }], guard := some (4, true) }) (v := undef) rfl (by kernel_rfl) (by kernel_rfl) (by kernel_rfl) (fun _ _ _ h => h) (Or.inr ⟨by rfl, rfl⟩) (by assumption) ?_
        (try simp only [Act.put, List.setIfInBounds_toArray, List.set_cons_zero, List.set_cons_succ])
        refine wpAnyH_take (i := 9) (oi := { dst := some 44, op := Op.load 28 (Operand.tmp 43), type := 28, pos := "sort.go:167", after := #[{ on := 8, ground := Ground.data }, { on := 4, ground := Ground.guard }], guard := some (4, true) }) (v := undef) rfl (by kernel_rfl) (by kernel_rfl) (by kernel_rfl) (fun _ _ _ h => h) (Or.inr ⟨by rfl, rfl⟩) (by assumption) ?_
        (try simp only [Act.put, List.setIfInBounds_toArray, List.set_cons_zero, List.set_cons_succ])
        refine wpAnyH_take (i := 10) (oi := { dst := some 45, op := Op.load 25 (Operand.tmp 4), type := 25, pos := "sort.go:167", after := #[{ on := 4, ground := Ground.guard }], guard := some (4, true) }) (v := undef) rfl (by kernel_rfl) (by kernel_rfl) (by kernel_rfl) (fun _ _ _ h => h) (Or.inr ⟨by rfl, rfl⟩) (by assumption) ?_
        (try simp only [Act.put, List.setIfInBounds_toArray, List.set_cons_zero, List.set_cons_succ])
        refine wpAnyH_take (i := 11) (oi := { dst := some 46, op := Op.call { callee := Callee.value (Operand.tmp 40), args := #[Operand.tmp 44, Operand.tmp 45], argTypes := #[28, 25] }, type := 3, pos := "sort.go:167", after := #[{ on := 5, ground := Ground.data }, { on := 9, ground := Ground.data }, { on := 10, ground := Ground.data }, { on := 4, ground := Ground.chain }, { on := 4, ground := Ground.guard }], guard := some (4, true) }) (v := undef) rfl (by kernel_rfl) (by kernel_rfl) (by kernel_rfl) (fun _ _ _ h => h) (Or.inr ⟨by rfl, rfl⟩) (by assumption) ?_
        (try simp only [Act.put, List.setIfInBounds_toArray, List.set_cons_zero, List.set_cons_succ])
        refine wpAnyH_take (i := 12) (oi := { dst := some 47, op := Op.binOp BinOp.eql 3 (Operand.tmp 46) (Operand.const (Value.int IntKind.i64 0)) 3, type := 4, pos := "sort.go:167", after := #[{ on := 11, ground := Ground.data }, { on := 4, ground := Ground.guard }, { on := 14, ground := Ground.gcOnly Departure.lateStores }], guard := some (4, true) }) (v := undef) rfl (by kernel_rfl) (by kernel_rfl) (by kernel_rfl) (fun _ _ _ h => h) (Or.inr ⟨by rfl, rfl⟩) (by assumption) ?_
        (try simp only [Act.put, List.setIfInBounds_toArray, List.set_cons_zero, List.set_cons_succ])
        refine wpAnyH_take (i := 13) (oi := { dst := some 48, op := Op.pick (Operand.tmp 39) (Operand.tmp 47) (Operand.const (Value.bool false)), type := 4, pos := "sort.go:167", after := #[{ on := 4, ground := Ground.data }, { on := 12, ground := Ground.data }, { on := 14, ground := Ground.gcOnly Departure.lateStores }], guard := none }) (v := ?vr4_13) rfl (by kernel_rfl) (by kernel_rfl) (by kernel_rfl) (fun _ _ _ h => h) (Or.inl ⟨by rfl, ?hyr4_13⟩) (by assumption) ?restr4_13
        case hyr4_13 => (intro wS hS; (try dsimp only at hS); go_simp; (try with_reducible rfl))
        (try simp only [Act.put, List.setIfInBounds_toArray, List.set_cons_zero, List.set_cons_succ])
        refine wpAnyH_take (i := 14) (oi := { dst := some 6, op := Op.assign (Operand.tmp 35), type := 3, pos := "sort.go:167", after := #[{ on := 0, ground := Ground.data }, { on := 11, ground := Ground.chain }, { on := 0, ground := Ground.phase }, { on := 1, ground := Ground.textOnly Departure.lateStores }, { on := 2, ground := Ground.textOnly Departure.lateStores }, { on := 3, ground := Ground.textOnly Departure.lateStores }, { on := 4, ground := Ground.textOnly Departure.lateStores }, { on := 5, ground := Ground.textOnly Departure.lateStores }, { on := 6, ground := Ground.textOnly Departure.lateStores }, { on := 7, ground := Ground.textOnly Departure.lateStores }, { on := 8, ground := Ground.textOnly Departure.lateStores }, { on := 9, ground := Ground.textOnly Departure.lateStores }, { on := 10, ground := Ground.textOnly Departure.lateStores }, { on := 11, ground := Ground.textOnly Departure.lateStoresUnsure }, { on := 12, ground := Ground.textOnly Departure.lateStores }, { on := 13, ground := Ground.textOnly Departure.lateStores }], guard := none }) (v := ?vr4_14) rfl (by kernel_rfl) (by kernel_rfl) (by kernel_rfl) (fun _ _ _ h => h) (Or.inl ⟨by rfl, ?hyr4_14⟩) (by assumption) ?restr4_14
        case hyr4_14 => (intro wS hS; (try dsimp only at hS); go_simp; (try with_reducible rfl))
        (try simp only [Act.put, List.setIfInBounds_toArray, List.set_cons_zero, List.set_cons_succ])
        refine wpAnyH_take (i := 15) (oi := { dst := some 7, op := Op.assign (Operand.tmp 48), type := 4, pos := "sort.go:167", after := #[{ on := 13, ground := Ground.data }, { on := 14, ground := Ground.chain }, { on := 0, ground := Ground.phase }, { on := 1, ground := Ground.phase }, { on := 2, ground := Ground.phase }, { on := 3, ground := Ground.phase }, { on := 4, ground := Ground.phase }, { on := 5, ground := Ground.phase }, { on := 6, ground := Ground.phase }, { on := 7, ground := Ground.phase }, { on := 8, ground := Ground.phase }, { on := 9, ground := Ground.phase }, { on := 10, ground := Ground.phase }, { on := 11, ground := Ground.phase }, { on := 12, ground := Ground.phase }, { on := 13, ground := Ground.phase }, { on := 14, ground := Ground.phase }], guard := none }) (v := ?vr4_15) rfl (by kernel_rfl) (by kernel_rfl) (by kernel_rfl) (fun _ _ _ h => h) (Or.inl ⟨by rfl, ?hyr4_15⟩) (by assumption) ?restr4_15
        case hyr4_15 => (intro wS hS; (try dsimp only at hS); go_simp; (try with_reducible rfl))
        (try simp only [Act.put, List.setIfInBounds_toArray, List.set_cons_zero, List.set_cons_succ])
        refine wpAnyH_done (by kernel_rfl) ?_ _
        go_wp2
        refine bodyPost_ret (v := .tuple #[.int .i64 (lo : Int), .bool false]) (by simp [results, Tryd.results61, go_sem]) rfl ?_
        exact ⟨lo, HA.out, by rw [HSE.out], hHeld⟩
theorem place_e (A : Option Addr) (c : Nat) (l : List EE) (q : EK) (w : World) (hr : Kd.C k28 w A l.length l) (hc : l.length ≤ c) (hn : l.length ≤ 1000) (hinc : Inc ordK κE l) :
    Calls Tryd.prog 39 #[.slice A l.length c, .agg #[.int .u32 q.f0, .string q.f1]] w fun e w' => ∃ p : Nat, At (c := ordK) (κ := κE) l q p ∧ e = .returned (.tuple #[.int .i64 (p : Int), .bool (seenAt l q p)]) ∧ Below w.heap.size w w' := by
  have HR := Sealed.mk hr
  have HI := Sealed.mk hinc
  clear hr hinc
  go_enter Tryd.func39, Tryd.ntmps39
  go_wp2_with fail
  refine (search_e A c l q _ (Kd.C_below HR.out (below_alloc _ _)) hc hn HI.out).mono ?_
  rintro e w1 ⟨p, hp, rfl, hb⟩
  have HP := Sealed.mk hp
  clear hp
  go_wp2
  refine bodyPost_ret (v := .tuple #[.int .i64 (p : Int), .bool (seenAt l q p)]) (by simp [results, Tryd.results39, go_sem]) rfl ?_
  exact ⟨p, HP.out, rfl, below_next (below_alloc _ _) hb⟩
end Go.Proofs.YtkgkemihhfipaaaDoor.HK

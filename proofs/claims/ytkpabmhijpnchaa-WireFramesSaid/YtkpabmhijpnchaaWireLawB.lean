/- Layer 19's statement WireFrames: its walk. -/
import Derived.Test.YtkpabmhijpnchaaWireLawA
import Derived.Deep.DeepCutAuto
import Derived.OpenShut
set_option linter.unusedVariables false
set_option linter.unusedSimpArgs false
namespace Go.Proofs.Ytkpabmhijpnchaa
open Go.RowKit
theorem placeOf_in {n k : Nat} (h : k < n) (h2 : n ≤ 200) : placeOf n (k : Int) = ((k : Int), 0) := by
  unfold placeOf
  rw [if_neg (by omega), if_neg (by omega)]
  have : (k : Int) % (n : Int) = k := Int.emod_eq_of_lt (by omega) (by omega)
  rw [this]
theorem add_pos (a : Addr) {n : Nat} (h : 0 < n) : a.add n = ⟨a.block, a.off + n, none⟩ := by unfold Addr.add; rw [if_neg (by omega)]
theorem passOf_in {L : List (List UInt8)} {k : Nat} (h : k < L.length) (h2 : L.length ≤ 200) : passOf L (k : Int) = (L.eraseIdx k, L[k], 0) := by
  unfold passOf
  rw [placeOf_in h h2, if_pos rfl]
  simp [List.getD_eq_getElem?_getD, h]
theorem twiceOf_in {L : List (List UInt8)} {k : Nat} (h : k < L.length) (h2 : L.length ≤ 200) : twiceOf L (k : Int) = putOf L L[k] := by
  unfold twiceOf
  rw [placeOf_in h h2, if_pos rfl]
  simp [List.getD_eq_getElem?_getD, h]
set_option maxHeartbeats 8000000 in
set_option maxRecDepth 100000 in
theorem WireFrames_yes (w : World) (A : Option Addr) (c : Nat) (L : List (List UInt8)) (B : Option Addr) (d : Nat) (b : List UInt8) (a : Nat) (hL : Rd2 w Anywhere A L) (hc : L.length ≤ c) (hb : Rd w Anywhere 1 B b.length (bv b)) (hd : b.length ≤ d) (h1 : L.length < 200) (h3 : ∀ x ∈ L, x.length ≤ 3000) (hl : lists13 L = true) (h2 : b.length ≤ 3000) (ha : a ≤ 255) :
    Calls Try.prog 4 #[.agg #[.slice A L.length c], .slice B b.length d, .int .u8 (a : Int)] w fun e w' => e = .returned (.bool true) ∧ Below w.heap.size w w' := by
  have HL := Sealed.mk hL
  have HB := Sealed.mk hb
  have HA := Sealed.mk hl
  have hm1 : L.length ≤ 9223372036854775807 := by omega
  have h2' : decide (3000 < b.length) = false := by simp; omega
  have h2'' : decide (3000 < (b.length : Int)) = false := by simp; omega
  obtain ⟨X, hX⟩ : ∃ X, X = L ++ [b] := ⟨_, rfl⟩
  have hXl : X.length = L.length + 1 := by rw [hX]; simp
  have hXn0 : L.length < X.length := by omega
  have hXn : X[L.length] = b := by simp [hX]
  have hX3 : ∀ x ∈ X, x.length ≤ 3000 := by
    intro x hx
    rw [hX, List.mem_append] at hx
    rcases hx with hx | hx
    · exact h3 x hx
    · rw [List.mem_singleton] at hx; rw [hx]; exact h2
  have hXe : X.eraseIdx L.length = L := by rw [hX, List.eraseIdx_append_of_length_le (Nat.le_refl _)]; simp
  have P := Sealed.mk (show putOf L b = (X, 0) by unfold putOf; rw [if_neg (by omega), if_neg (by omega), hX])
  have Q := Sealed.mk (show passOf X (L.length : Int) = (L, b, 0) by rw [passOf_in (by omega) (by omega), hXe, hXn])
  obtain ⟨t, ht⟩ : ∃ t, t = putOf X b := ⟨_, rfl⟩
  have Tw := Sealed.mk (show twiceOf X (L.length : Int) = t by rw [twiceOf_in (by omega) (by omega), hXn, ht])
  obtain ⟨k, hk⟩ : ∃ k, k = a % (L.length + 1) := ⟨_, rfl⟩
  have hkl : k ≤ L.length := by rw [hk]; exact Nat.le_of_lt_succ (Nat.mod_lt _ (by omega))
  have hkX : k < X.length := by omega
  have K := Sealed.mk (show passOf X (k : Int) = (X.eraseIdx k, X[k], 0) from passOf_in hkX (by omega))
  have ht' : (t.2 = 0 ∧ L.length + 1 < 200 ∧ t.1 = X ++ [b]) ∨ (t.2 = 7 ∧ ¬ L.length + 1 < 200 ∧ t.1 = X) := by
    rw [ht]
    unfold putOf
    rw [if_neg (by omega)]
    by_cases h : X.length = 200
    · rw [if_pos h]; exact .inr ⟨rfl, by omega, rfl⟩
    · rw [if_neg h]; exact .inl ⟨rfl, by omega, rfl⟩
  have htl : t.1.length ≤ L.length + 2 := by rcases ht' with ⟨_, _, h⟩ | ⟨_, _, h⟩ <;> rw [h] <;> simp [hXl]
  have hmodk' : (a : Int) % ((L.length : Int) + 1) = (k : Int) := by rw [hk, Int.natCast_emod, Int.natCast_add]; rfl
  have hmodk : (a : Int).tmod ((L.length : Int) + 1) = (k : Int) := by rw [Int.tmod_eq_emod_of_nonneg (by omega), hmodk']
  have hXa : X.length ≤ L.length + 1 := by omega
  have hXb : L.length + 1 ≤ X.length := by omega
  have HT := Sealed.mk ht'
  have HX := Sealed.mk hXl
  have HXn := Sealed.mk hXn
  have HX3 := Sealed.mk hX3
  clear hL hb hl h3 hX hXn hX3 hXe ht ht' hk hXl
  go_enter Try.func4, Try.ntmps4
  go_wp2_with fail
  refine (awake19 _).mono ?_
  rintro e w1 ⟨rfl, hb1⟩
  obtain ⟨k3c, k3f⟩ := (Cell.new w (.slice A L.length c) 24).below hb1
  have HS := Sealed.mk (below_next (below_alloc w (.cells #[.slice A L.length c] 24)) hb1)
  clear hb1
  go_wp2_with fail
  refine (ref13_Lists _ A c L (HL.out.below HS.out) hm1 true HA.out).mono ?_
  rintro e w2 ⟨rfl, hb2⟩
  obtain ⟨k3c, k3f⟩ := Cell.below ⟨k3c, k3f⟩ hb2
  have lk3 := Cell.lt ⟨k3c, k3f⟩
  replace HS := Sealed.mk (below_next HS.out hb2)
  clear hb2

  go_wp2_with fail
  refine (wire_Put _ Anywhere A c L B d b (HL.out.below HS.out) hc (HB.out.below HS.out) hd (by omega) (by omega)).mono ?_
  rw [P.out]
  rintro e w3 ⟨Ax, cx, rfl, hcx, rx, hb3⟩
  have nk3 := Cell.below ⟨k3c, k3f⟩ hb3
  clear k3c k3f lk3
  have lk3 := nk3.lt
  obtain ⟨k3c, k3f⟩ := nk3
  have ha := Sealed.mk hb3
  replace HS := Sealed.mk (below_next HS.out ha.out)
  replace rx := Sealed.mk rx.any
  clear hb3 ha
  go_wp2_with fail
  refine (wire_Pass _ Anywhere Ax cx X (L.length : Int) (rx.out.below (below_alloc w3 (.cells #[(.slice Ax X.length cx)] 24))) hcx (by omega) (fun x hx => Nat.le_trans (HX3.out x hx) (by decide))).mono ?_
  rw [Q.out]
  rintro e w4 ⟨Au, cu, Bc, dc, rfl, hcu, ru, hdc, rc, hb4⟩
  have nk3 := (Cell.old ⟨k3c, k3f⟩ (.cells #[(.slice Ax X.length cx)] 24)).below hb4
  have nk7 := (Cell.new w3 (.slice Ax X.length cx) 24).below hb4
  clear k3c k3f lk3
  have lk3 := nk3.lt
  obtain ⟨k3c, k3f⟩ := nk3
  have lk7 := nk7.lt
  obtain ⟨k7c, k7f⟩ := nk7
  have ha := Sealed.mk (below_next (below_alloc w3 (.cells #[(.slice Ax X.length cx)] 24)) hb4)
  replace HS := Sealed.mk (below_next HS.out ha.out)
  replace rx := Sealed.mk (rx.out.below ha.out)
  replace ru := Sealed.mk ru.any
  replace rc := Sealed.mk rc.any
  clear hb4 ha
  go_wp2_with fail
  refine (wire_Twice _ Anywhere Ax cx X (L.length : Int) (rx.out.below (below_alloc w4 (.cells #[(.slice Au L.length cu)] 24))) hcx (by omega) (fun x hx => Nat.le_trans (HX3.out x hx) (by decide))).mono ?_
  rw [Tw.out]
  rintro e w5 ⟨At, ct, rfl, hct, rt, hb5⟩
  have nk3 := (Cell.old ⟨k3c, k3f⟩ (.cells #[(.slice Au L.length cu)] 24)).below hb5
  have nk7 := (Cell.old ⟨k7c, k7f⟩ (.cells #[(.slice Au L.length cu)] 24)).below hb5
  have nk10 := (Cell.new w4 (.slice Au L.length cu) 24).below hb5
  clear k3c k3f k7c k7f lk3 lk7
  have lk3 := nk3.lt
  obtain ⟨k3c, k3f⟩ := nk3
  have lk7 := nk7.lt
  obtain ⟨k7c, k7f⟩ := nk7
  have lk10 := nk10.lt
  obtain ⟨k10c, k10f⟩ := nk10
  have ha := Sealed.mk (below_next (below_alloc w4 (.cells #[(.slice Au L.length cu)] 24)) hb5)
  replace HS := Sealed.mk (below_next HS.out ha.out)
  replace rx := Sealed.mk (rx.out.below ha.out)
  replace ru := Sealed.mk (ru.out.below ha.out)
  replace rc := Sealed.mk (rc.out.below ha.out)
  replace rt := Sealed.mk rt.any
  clear hb5 ha
  go_wp2_with fail
  obtain ⟨w6, hw6⟩ : ∃ w6, w6 = w5.alloc (.cells #[(.slice At t.1.length ct)] 24) := ⟨_, rfl⟩
  have hb9 : Below w5.heap.size w5 w6 := by rw [hw6]; exact below_alloc _ _
  have nk13 : Cell w6 w5.heap.size 0 (.slice At t.1.length ct) := by rw [hw6]; exact Cell.new _ _ _
  rw [← hw6]
  clear hw6
  have nk3 := Cell.below ⟨k3c, k3f⟩ hb9
  have nk7 := Cell.below ⟨k7c, k7f⟩ hb9
  have nk10 := Cell.below ⟨k10c, k10f⟩ hb9
  clear k3c k3f lk3 k7c k7f lk7 k10c k10f lk10
  have lk3 := nk3.lt
  obtain ⟨k3c, k3f⟩ := nk3
  have lk7 := nk7.lt
  obtain ⟨k7c, k7f⟩ := nk7
  have lk10 := nk10.lt
  obtain ⟨k10c, k10f⟩ := nk10
  have lk13 := nk13.lt
  obtain ⟨k13c, k13f⟩ := nk13
  replace rx := Sealed.mk (rx.out.below hb9)
  replace ru := Sealed.mk (ru.out.below hb9)
  replace rc := Sealed.mk (rc.out.below hb9)
  replace rt := Sealed.mk (rt.out.below hb9)
  replace HS := Sealed.mk (below_next HS.out hb9)
  clear hb9
  have v1 : ∀ w', Below w6.heap.size w6 w' → (convert 25 9 (.slice Bc b.length dc)).run Try.prog w' = .ok (.string (str b)) w' := fun w' h => run_string_of (rc.out.below h) _ 5 _ Try.underlying25 Try.underlying5 Try.underlying9 dc
  have v2 : ∀ w', Below w6.heap.size w6 w' → (convert 25 9 (.slice B b.length d)).run Try.prog w' = .ok (.string (str b)) w' := fun w' h => run_string_of ((HB.out.below HS.out).below h) _ 5 _ Try.underlying25 Try.underlying5 Try.underlying9 d
  have hb0 := Below.refl w6.heap.size w6
  have hw1 : IntKind.i64.wrap ((L.length : Int) + 1) = (L.length : Int) + 1 := IntWalk.i64_in _ (by omega)
  have hw2 : IntKind.i64.wrap ((L.length : Int) + 2) = (L.length : Int) + 2 := IntWalk.i64_in _ (by omega)
  go_cut [111] (fun s wc => s = .bool false ∧ Sealed (Below w6.heap.size w6 wc))
  case first =>
    rcases HT.out with ⟨e0, e1, e2⟩ | ⟨e0, e1, e2⟩
    · have g1 : (t.2 == 0) = true := by simp [e0]
      have g2 : decide ((L.length : Int) + 1 < 200) = true := by simp; omega
      have hzl : t.1.length = L.length + 2 := by rw [e2]; simp [HX.out]
      have g3 : ((t.1.length : Int) != (L.length : Int) + 2) = false := by rw [hzl]; simp
      have hzi : L.length + 1 < t.1.length := by omega
      have hze : t.1[L.length + 1] = b := by simp [e2, HX.out]
      obtain ⟨ad, A9, c9, rfl, hcell, hc9, hr9⟩ := rt.out.at_ hzi
      rw [hze] at hcell hr9
      have v3 : ∀ w', Below w6.heap.size w6 w' → (convert 25 9 (.slice A9 b.length c9)).run Try.prog w' = .ok (.string (str b)) w' := fun w' h => run_string_of (hr9.below h) _ 5 _ Try.underlying25 Try.underlying5 Try.underlying9 c9
      have hi0 : (0 : Int) ≤ (L.length : Int) + 1 := by omega
      have hi1 : (L.length : Int) + 1 < (t.1.length : Int) := by omega
      have hi2 : ((L.length : Int) + 1).toNat = L.length + 1 := by omega
      rw [add_pos _ (show 0 < L.length + 1 by omega)] at hcell
      have HC := Sealed.mk hcell
      clear e0 e1 e2 hzl hze hr9 hc9 hcell
      go_region_held3 (fun w' => w'.cell? ⟨w.heap.size, 0, none⟩ = some (.slice A L.length c) ∧ w'.cell? ⟨w4.heap.size, 0, none⟩ = some (.slice Au L.length cu) ∧ w'.cell? ⟨w5.heap.size, 0, none⟩ = some (.slice (some ad) t.1.length ct) ∧ w'.cell? ⟨ad.block, ad.off + (L.length + 1), none⟩ = some (.slice A9 b.length c9) ∧ Below w6.heap.size w6 w')
        (first | (refine ⟨?_, ?_, ?_, ?_, ?_⟩ <;> assumption) | (refine ⟨k3c, k10c, k13c, HC.out, hb0.drew⟩) | (go_split_ands; refine ⟨cell_below hbz (by assumption), cell_below hbz (by assumption), cell_below hbz (by assumption), cell_below hbz (by assumption), below_next (by assumption) hbz⟩))
        (first | (go_at_call 17; go_split_ands; refine (ref19_Same _ Au cu L A c L ?h1 ?h2 (by omega) (by omega) true (by simp)).mono ?_; (case h1 => exact ru.out.below (by assumption)); (case h2 => exact (HL.out.below HS.out).below (by assumption)); rintro e wz ⟨rfl, hbz⟩))
      go_wp2
      go_split_ands
      go_meet
      case rel => exact ⟨rfl, ⟨by assumption⟩⟩
    · have g1 : (t.2 == 0) = false := by simp [e0]
      have g2 : decide ((L.length : Int) + 1 < 200) = false := by simp; omega
      clear e0 e1 e2
      refine wp_region_held_drew (S := fun w' => w'.cell? ⟨w.heap.size, 0, none⟩ = some (.slice A L.length c) ∧ w'.cell? ⟨w4.heap.size, 0, none⟩ = some (.slice Au L.length cu) ∧ Below w6.heap.size w6 w') (by kernel_rfl) (⟨k3c, k10c, hb0.drew⟩) (fun hHeld => ?_)
      refine wpAnyH_take (i := 0) (oi := { dst := some 65, op := Op.move (Operand.tmp 12), type := 28, pos := "law.go:53", after := #[], guard := none }) (v := ?v0) rfl (by kernel_rfl) (by kernel_rfl) (by kernel_rfl) (fun _ _ _ h => h) (Or.inl ⟨by rfl, ?hy0⟩) (by assumption) ?rest0
      case hy0 => (intro wS hS; (try dsimp only at hS); go_simp; (try with_reducible rfl))
      (try simp only [Act.put, List.setIfInBounds_toArray, List.set_cons_zero, List.set_cons_succ])
      refine wpAnyH_take (i := 1) (oi := { dst := some 66, op := Op.binOp BinOp.neq 28 (Operand.tmp 65) (Operand.const (Value.int IntKind.i64 0)) 28, type := 4, pos := "law.go:53", after := #[{ on := 0, ground := Ground.data }], guard := none }) (v := ?v1) rfl (by kernel_rfl) (by kernel_rfl) (by kernel_rfl) (fun _ _ _ h => h) (Or.inl ⟨by rfl, ?hy1⟩) (by assumption) ?rest1
      case hy1 => (intro wS hS; (try dsimp only at hS); go_simp; (try with_reducible rfl))
      (try simp only [Act.put, List.setIfInBounds_toArray, List.set_cons_zero, List.set_cons_succ])
      refine wpAnyH_take (i := 2) (oi := { dst := some 67, op := Op.move (Operand.tmp 66), type := 4, pos := "law.go:53", after := #[{ on := 1, ground := Ground.data }], guard := none }) (v := ?v2) rfl (by kernel_rfl) (by kernel_rfl) (by kernel_rfl) (fun _ _ _ h => h) (Or.inl ⟨by rfl, ?hy2⟩) (by assumption) ?rest2
      case hy2 => (intro wS hS; (try dsimp only at hS); go_simp; (try with_reducible rfl))
      (try simp only [Act.put, List.setIfInBounds_toArray, List.set_cons_zero, List.set_cons_succ])
      refine wpAnyH_take (i := 3) (oi := { dst := some 68, op := Op.move (Operand.tmp 11), type := 25, pos := "law.go:53", after := #[{ on := 2, ground := Ground.guard }], guard := some (2, false) }) (v := ?v3) rfl (by kernel_rfl) (by kernel_rfl) (by kernel_rfl) (fun _ _ _ h => h) (Or.inl ⟨by rfl, ?hy3⟩) (by assumption) ?rest3
      case hy3 => (intro wS hS; (try dsimp only at hS); go_simp; (try with_reducible rfl))
      (try simp only [Act.put, List.setIfInBounds_toArray, List.set_cons_zero, List.set_cons_succ])
      refine wpAnyH_take (i := 4) (oi := { dst := some 69, op := Op.convert 25 9 (Operand.tmp 68), type := 9, pos := "law.go:53", after := #[{ on := 3, ground := Ground.data }, { on := 2, ground := Ground.guard }], guard := some (2, false) }) (v := ?v4) rfl (by kernel_rfl) (by kernel_rfl) (by kernel_rfl) (fun _ _ _ h => h) (Or.inl ⟨by rfl, ?hy4⟩) (by assumption) ?rest4
      case hy4 => (intro wS hS; (try dsimp only at hS); go_simp; (try with_reducible rfl))
      (try simp only [Act.put, List.setIfInBounds_toArray, List.set_cons_zero, List.set_cons_succ])
      refine wpAnyH_take (i := 5) (oi := { dst := some 70, op := Op.move (Operand.tmp 1), type := 25, pos := "law.go:53", after := #[{ on := 2, ground := Ground.guard }], guard := some (2, false) }) (v := ?v5) rfl (by kernel_rfl) (by kernel_rfl) (by kernel_rfl) (fun _ _ _ h => h) (Or.inl ⟨by rfl, ?hy5⟩) (by assumption) ?rest5
      case hy5 => (intro wS hS; (try dsimp only at hS); go_simp; (try with_reducible rfl))
      (try simp only [Act.put, List.setIfInBounds_toArray, List.set_cons_zero, List.set_cons_succ])
      refine wpAnyH_take (i := 6) (oi := { dst := some 71, op := Op.convert 25 9 (Operand.tmp 70), type := 9, pos := "law.go:53", after := #[{ on := 5, ground := Ground.data }, { on := 2, ground := Ground.guard }], guard := some (2, false) }) (v := ?v6) rfl (by kernel_rfl) (by kernel_rfl) (by kernel_rfl) (fun _ _ _ h => h) (Or.inl ⟨by rfl, ?hy6⟩) (by assumption) ?rest6
      case hy6 => (intro wS hS; (try dsimp only at hS); go_simp; (try with_reducible rfl))
      (try simp only [Act.put, List.setIfInBounds_toArray, List.set_cons_zero, List.set_cons_succ])
      refine wpAnyH_take (i := 7) (oi := { dst := some 72, op := Op.binOp BinOp.neq 9 (Operand.tmp 69) (Operand.tmp 71) 9, type := 4, pos := "law.go:53", after := #[{ on := 4, ground := Ground.data }, { on := 6, ground := Ground.data }, { on := 2, ground := Ground.guard }], guard := some (2, false) }) (v := ?v7) rfl (by kernel_rfl) (by kernel_rfl) (by kernel_rfl) (fun _ _ _ h => h) (Or.inl ⟨by rfl, ?hy7⟩) (by assumption) ?rest7
      case hy7 => (intro wS hS; (try dsimp only at hS); go_simp; (try with_reducible rfl))
      (try simp only [Act.put, List.setIfInBounds_toArray, List.set_cons_zero, List.set_cons_succ])
      refine wpAnyH_take (i := 8) (oi := { dst := some 73, op := Op.pick (Operand.tmp 67) (Operand.const (Value.bool true)) (Operand.tmp 72), type := 4, pos := "law.go:53", after := #[{ on := 2, ground := Ground.data }, { on := 7, ground := Ground.data }], guard := none }) (v := ?v8) rfl (by kernel_rfl) (by kernel_rfl) (by kernel_rfl) (fun _ _ _ h => h) (Or.inl ⟨by rfl, ?hy8⟩) (by assumption) ?rest8
      case hy8 => (intro wS hS; (try dsimp only at hS); go_simp; (try with_reducible rfl))
      (try simp only [Act.put, List.setIfInBounds_toArray, List.set_cons_zero, List.set_cons_succ])
      refine wpAnyH_take (i := 9) (oi := { dst := some 74, op := Op.move (Operand.tmp 73), type := 4, pos := "law.go:53", after := #[{ on := 8, ground := Ground.data }, { on := 2, ground := Ground.chain }], guard := none }) (v := ?v9) rfl (by kernel_rfl) (by kernel_rfl) (by kernel_rfl) (fun _ _ _ h => h) (Or.inl ⟨by rfl, ?hy9⟩) (by assumption) ?rest9
      case hy9 => (intro wS hS; (try dsimp only at hS); go_simp; (try with_reducible rfl))
      (try simp only [Act.put, List.setIfInBounds_toArray, List.set_cons_zero, List.set_cons_succ])
      refine wpAnyH_take (i := 10) (oi := { dst := some 75, op := Op.load 24 (Operand.tmp 10), type := 24, pos := "law.go:53", after := #[{ on := 9, ground := Ground.guard }], guard := some (9, false) }) (v := ?v10) rfl (by kernel_rfl) (by kernel_rfl) (by kernel_rfl) (fun _ _ _ h => h) (Or.inl ⟨by rfl, ?hy10⟩) (by assumption) ?rest10
      case hy10 => (intro wS hS; (try dsimp only at hS); go_simp; (try with_reducible rfl))
      (try simp only [Act.put, List.setIfInBounds_toArray, List.set_cons_zero, List.set_cons_succ])
      refine wpAnyH_take (i := 11) (oi := { dst := some 76, op := Op.load 24 (Operand.tmp 3), type := 24, pos := "law.go:53", after := #[{ on := 9, ground := Ground.guard }], guard := some (9, false) }) (v := ?v11) rfl (by kernel_rfl) (by kernel_rfl) (by kernel_rfl) (fun _ _ _ h => h) (Or.inl ⟨by rfl, ?hy11⟩) (by assumption) ?rest11
      case hy11 => (intro wS hS; (try dsimp only at hS); go_simp; (try with_reducible rfl))
      (try simp only [Act.put, List.setIfInBounds_toArray, List.set_cons_zero, List.set_cons_succ])
      refine wpAnyH_ready (rs := [12]) (by kernel_rfl) (by simp) (AllReadyH.cons (o := { dst := some 77, op := Op.call { callee := Callee.value (Operand.func 17), args := #[Operand.tmp 75, Operand.tmp 76], argTypes := #[24, 24] }, type := 4, pos := "law.go:53", after := #[{ on := 10, ground := Ground.data }, { on := 11, ground := Ground.data }, { on := 9, ground := Ground.chain }, { on := 9, ground := Ground.guard }], guard := some (9, false) }) rfl (fun K hK => ?_) AllReadyH.nil)
      go_simp
      refine (ref19_Same _ Au cu L A c L (ru.out.below hHeld.2.2) ((HL.out.below HS.out).below hHeld.2.2) (by omega) (by omega) true (by simp)).mono ?_
      rintro e wz ⟨rfl, hbz⟩
      refine hK.out _ _ ⟨cell_below hbz hHeld.1, cell_below hbz hHeld.2.1, below_next hHeld.2.2 hbz⟩ (fun hHeld' => ?_)
      clear hHeld hbz
      have hHeld := hHeld'
      clear hHeld'
      clear hK K
      (try simp only [Act.put, List.setIfInBounds_toArray, List.set_cons_zero, List.set_cons_succ])
      refine wpAnyH_take (i := 13) (oi := { dst := some 78, op := Op.unOp UnOp.not 4 (Operand.tmp 77), type := 4, pos := "law.go:53", after := #[{ on := 12, ground := Ground.data }, { on := 9, ground := Ground.guard }], guard := some (9, false) }) (v := ?v13) rfl (by kernel_rfl) (by kernel_rfl) (by kernel_rfl) (fun _ _ _ h => h) (Or.inl ⟨by rfl, ?hy13⟩) (by assumption) ?rest13
      case hy13 => (intro wS hS; (try dsimp only at hS); go_simp; (try with_reducible rfl))
      (try simp only [Act.put, List.setIfInBounds_toArray, List.set_cons_zero, List.set_cons_succ])
      refine wpAnyH_take (i := 14) (oi := { dst := some 79, op := Op.pick (Operand.tmp 74) (Operand.const (Value.bool true)) (Operand.tmp 78), type := 4, pos := "law.go:53", after := #[{ on := 9, ground := Ground.data }, { on := 13, ground := Ground.data }], guard := none }) (v := ?v14) rfl (by kernel_rfl) (by kernel_rfl) (by kernel_rfl) (fun _ _ _ h => h) (Or.inl ⟨by rfl, ?hy14⟩) (by assumption) ?rest14
      case hy14 => (intro wS hS; (try dsimp only at hS); go_simp; (try with_reducible rfl))
      (try simp only [Act.put, List.setIfInBounds_toArray, List.set_cons_zero, List.set_cons_succ])
      refine wpAnyH_take (i := 15) (oi := { dst := some 80, op := Op.move (Operand.tmp 79), type := 4, pos := "law.go:53", after := #[{ on := 14, ground := Ground.data }, { on := 12, ground := Ground.chain }], guard := none }) (v := ?v15) rfl (by kernel_rfl) (by kernel_rfl) (by kernel_rfl) (fun _ _ _ h => h) (Or.inl ⟨by rfl, ?hy15⟩) (by assumption) ?rest15
      case hy15 => (intro wS hS; (try dsimp only at hS); go_simp; (try with_reducible rfl))
      (try simp only [Act.put, List.setIfInBounds_toArray, List.set_cons_zero, List.set_cons_succ])
      refine wpAnyH_take (i := 16) (oi := { dst := some 81, op := Op.move (Operand.tmp 14), type := 28, pos := "law.go:53", after := #[{ on := 15, ground := Ground.guard }], guard := some (15, false) }) (v := ?v16) rfl (by kernel_rfl) (by kernel_rfl) (by kernel_rfl) (fun _ _ _ h => h) (Or.inl ⟨by rfl, ?hy16⟩) (by assumption) ?rest16
      case hy16 => (intro wS hS; (try dsimp only at hS); go_simp; (try with_reducible rfl))
      (try simp only [Act.put, List.setIfInBounds_toArray, List.set_cons_zero, List.set_cons_succ])
      refine wpAnyH_take (i := 17) (oi := { dst := some 82, op := Op.binOp BinOp.eql 28 (Operand.tmp 81) (Operand.const (Value.int IntKind.i64 0)) 28, type := 4, pos := "law.go:53", after := #[{ on := 16, ground := Ground.data }, { on := 15, ground := Ground.guard }], guard := some (15, false) }) (v := ?v17) rfl (by kernel_rfl) (by kernel_rfl) (by kernel_rfl) (fun _ _ _ h => h) (Or.inl ⟨by rfl, ?hy17⟩) (by assumption) ?rest17
      case hy17 => (intro wS hS; (try dsimp only at hS); go_simp; (try with_reducible rfl))
      (try simp only [Act.put, List.setIfInBounds_toArray, List.set_cons_zero, List.set_cons_succ])
      refine wpAnyH_take (i := 18) (oi := { dst := some 83, op := Op.move (Operand.tmp 9), type := 3, pos := "law.go:53", after := #[{ on := 15, ground := Ground.guard }], guard := some (15, false) }) (v := ?v18) rfl (by kernel_rfl) (by kernel_rfl) (by kernel_rfl) (fun _ _ _ h => h) (Or.inl ⟨by rfl, ?hy18⟩) (by assumption) ?rest18
      case hy18 => (intro wS hS; (try dsimp only at hS); go_simp; (try with_reducible rfl))
      (try simp only [Act.put, List.setIfInBounds_toArray, List.set_cons_zero, List.set_cons_succ])
      refine wpAnyH_take (i := 19) (oi := { dst := some 84, op := Op.binOp BinOp.add 3 (Operand.tmp 83) (Operand.const (Value.int IntKind.i64 1)) 3, type := 3, pos := "law.go:53", after := #[{ on := 18, ground := Ground.data }, { on := 15, ground := Ground.guard }], guard := some (15, false) }) (v := ?v19) rfl (by kernel_rfl) (by kernel_rfl) (by kernel_rfl) (fun _ _ _ h => h) (Or.inl ⟨by rfl, ?hy19⟩) (by assumption) ?rest19
      case hy19 => (intro wS hS; (try dsimp only at hS); go_simp; (try with_reducible rfl))
      (try simp only [Act.put, List.setIfInBounds_toArray, List.set_cons_zero, List.set_cons_succ])
      refine wpAnyH_take (i := 20) (oi := { dst := some 85, op := Op.binOp BinOp.lss 3 (Operand.tmp 84) (Operand.const (Value.int IntKind.i64 200)) 3, type := 4, pos := "law.go:53", after := #[{ on := 19, ground := Ground.data }, { on := 15, ground := Ground.guard }], guard := some (15, false) }) (v := ?v20) rfl (by kernel_rfl) (by kernel_rfl) (by kernel_rfl) (fun _ _ _ h => h) (Or.inl ⟨by rfl, ?hy20⟩) (by assumption) ?rest20
      case hy20 => (intro wS hS; (try dsimp only at hS); go_simp; (try with_reducible rfl))
      (try simp only [Act.put, List.setIfInBounds_toArray, List.set_cons_zero, List.set_cons_succ])
      refine wpAnyH_take (i := 21) (oi := { dst := some 86, op := Op.binOp BinOp.neq 4 (Operand.tmp 82) (Operand.tmp 85) 4, type := 4, pos := "law.go:53", after := #[{ on := 17, ground := Ground.data }, { on := 20, ground := Ground.data }, { on := 15, ground := Ground.guard }], guard := some (15, false) }) (v := ?v21) rfl (by kernel_rfl) (by kernel_rfl) (by kernel_rfl) (fun _ _ _ h => h) (Or.inl ⟨by rfl, ?hy21⟩) (by assumption) ?rest21
      case hy21 => (intro wS hS; (try dsimp only at hS); go_simp; (try with_reducible rfl))
      (try simp only [Act.put, List.setIfInBounds_toArray, List.set_cons_zero, List.set_cons_succ])
      refine wpAnyH_take (i := 22) (oi := { dst := some 87, op := Op.pick (Operand.tmp 80) (Operand.const (Value.bool true)) (Operand.tmp 86), type := 4, pos := "law.go:53", after := #[{ on := 15, ground := Ground.data }, { on := 21, ground := Ground.data }], guard := none }) (v := ?v22) rfl (by kernel_rfl) (by kernel_rfl) (by kernel_rfl) (fun _ _ _ h => h) (Or.inl ⟨by rfl, ?hy22⟩) (by assumption) ?rest22
      case hy22 => (intro wS hS; (try dsimp only at hS); go_simp; (try with_reducible rfl))
      (try simp only [Act.put, List.setIfInBounds_toArray, List.set_cons_zero, List.set_cons_succ])
      refine wpAnyH_take (i := 23) (oi := { dst := some 88, op := Op.move (Operand.tmp 87), type := 4, pos := "law.go:53", after := #[{ on := 22, ground := Ground.data }, { on := 15, ground := Ground.chain }], guard := none }) (v := ?v23) rfl (by kernel_rfl) (by kernel_rfl) (by kernel_rfl) (fun _ _ _ h => h) (Or.inl ⟨by rfl, ?hy23⟩) (by assumption) ?rest23
      case hy23 => (intro wS hS; (try dsimp only at hS); go_simp; (try with_reducible rfl))
      (try simp only [Act.put, List.setIfInBounds_toArray, List.set_cons_zero, List.set_cons_succ])
      refine wpAnyH_take (i := 24) (oi := { dst := some 89, op := Op.move (Operand.tmp 14), type := 28, pos := "law.go:53", after := #[{ on := 23, ground := Ground.guard }], guard := some (23, false) }) (v := ?v24) rfl (by kernel_rfl) (by kernel_rfl) (by kernel_rfl) (fun _ _ _ h => h) (Or.inl ⟨by rfl, ?hy24⟩) (by assumption) ?rest24
      case hy24 => (intro wS hS; (try dsimp only at hS); go_simp; (try with_reducible rfl))
      (try simp only [Act.put, List.setIfInBounds_toArray, List.set_cons_zero, List.set_cons_succ])
      refine wpAnyH_take (i := 25) (oi := { dst := some 90, op := Op.binOp BinOp.eql 28 (Operand.tmp 89) (Operand.const (Value.int IntKind.i64 0)) 28, type := 4, pos := "law.go:53", after := #[{ on := 24, ground := Ground.data }, { on := 23, ground := Ground.guard }], guard := some (23, false) }) (v := ?v25) rfl (by kernel_rfl) (by kernel_rfl) (by kernel_rfl) (fun _ _ _ h => h) (Or.inl ⟨by rfl, ?hy25⟩) (by assumption) ?rest25
      case hy25 => (intro wS hS; (try dsimp only at hS); go_simp; (try with_reducible rfl))
      (try simp only [Act.put, List.setIfInBounds_toArray, List.set_cons_zero, List.set_cons_succ])
      refine wpAnyH_take (i := 26) (oi := { dst := some 91, op := Op.move (Operand.tmp 90), type := 4, pos := "law.go:53", after := #[{ on := 25, ground := Ground.data }, { on := 23, ground := Ground.chain }, { on := 23, ground := Ground.guard }], guard := some (23, false) }) (v := ?v26) rfl (by kernel_rfl) (by kernel_rfl) (by kernel_rfl) (fun _ _ _ h => h) (Or.inl ⟨by rfl, ?hy26⟩) (by assumption) ?rest26
      case hy26 => (intro wS hS; (try dsimp only at hS); go_simp; (try with_reducible rfl))
      (try simp only [Act.put, List.setIfInBounds_toArray, List.set_cons_zero, List.set_cons_succ])
      refine wpAnyH_take (i := 27) (oi := { dst := some 92, op := Op.fieldAddr 24 (Operand.tmp 13) 0, type := 0, pos := "law.go:53", after := #[{ on := 26, ground := Ground.guard }], guard := some (26, true) }) (v := undef) rfl (by kernel_rfl) (by kernel_rfl) (by kernel_rfl) (fun _ _ _ h => h) (Or.inr ⟨by rfl, rfl⟩) (by assumption) ?_
      (try simp only [Act.put, List.setIfInBounds_toArray, List.set_cons_zero, List.set_cons_succ])
      refine wpAnyH_take (i := 28) (oi := { dst := some 93, op := Op.load 22 (Operand.tmp 92), type := 22, pos := "law.go:53", after := #[{ on := 27, ground := Ground.data }, { on := 26, ground := Ground.guard }], guard := some (26, true) }) (v := undef) rfl (by kernel_rfl) (by kernel_rfl) (by kernel_rfl) (fun _ _ _ h => h) (Or.inr ⟨by rfl, rfl⟩) (by assumption) ?_
      (try simp only [Act.put, List.setIfInBounds_toArray, List.set_cons_zero, List.set_cons_succ])
      refine wpAnyH_take (i := 29) (oi := { dst := some 94, op := Op.call { callee := Callee.builtin Builtin.len, args := #[Operand.tmp 93], argTypes := #[22] }, type := 3, pos := "law.go:53", after := #[{ on := 28, ground := Ground.data }, { on := 26, ground := Ground.guard }], guard := some (26, true) }) (v := undef) rfl (by kernel_rfl) (by kernel_rfl) (by kernel_rfl) (fun _ _ _ h => h) (Or.inr ⟨by rfl, rfl⟩) (by assumption) ?_
      (try simp only [Act.put, List.setIfInBounds_toArray, List.set_cons_zero, List.set_cons_succ])
      refine wpAnyH_take (i := 30) (oi := { dst := some 95, op := Op.move (Operand.tmp 9), type := 3, pos := "law.go:53", after := #[{ on := 26, ground := Ground.guard }], guard := some (26, true) }) (v := undef) rfl (by kernel_rfl) (by kernel_rfl) (by kernel_rfl) (fun _ _ _ h => h) (Or.inr ⟨by rfl, rfl⟩) (by assumption) ?_
      (try simp only [Act.put, List.setIfInBounds_toArray, List.set_cons_zero, List.set_cons_succ])
      refine wpAnyH_take (i := 31) (oi := { dst := some 96, op := Op.binOp BinOp.add 3 (Operand.tmp 95) (Operand.const (Value.int IntKind.i64 2)) 3, type := 3, pos := "law.go:53", after := #[{ on := 30, ground := Ground.data }, { on := 26, ground := Ground.guard }], guard := some (26, true) }) (v := undef) rfl (by kernel_rfl) (by kernel_rfl) (by kernel_rfl) (fun _ _ _ h => h) (Or.inr ⟨by rfl, rfl⟩) (by assumption) ?_
      (try simp only [Act.put, List.setIfInBounds_toArray, List.set_cons_zero, List.set_cons_succ])
      refine wpAnyH_take (i := 32) (oi := { dst := some 97, op := Op.binOp BinOp.neq 3 (Operand.tmp 94) (Operand.tmp 96) 3, type := 4, pos := "law.go:53", after := #[{ on := 29, ground := Ground.data }, { on := 31, ground := Ground.data }, { on := 26, ground := Ground.guard }], guard := some (26, true) }) (v := undef) rfl (by kernel_rfl) (by kernel_rfl) (by kernel_rfl) (fun _ _ _ h => h) (Or.inr ⟨by rfl, rfl⟩) (by assumption) ?_
      (try simp only [Act.put, List.setIfInBounds_toArray, List.set_cons_zero, List.set_cons_succ])
      refine wpAnyH_take (i := 33) (oi := { dst := some 98, op := Op.move (Operand.tmp 97), type := 4, pos := "law.go:53", after := #[{ on := 32, ground := Ground.data }, { on := 26, ground := Ground.chain }, { on := 26, ground := Ground.guard }], guard := some (26, true) }) (v := undef) rfl (by kernel_rfl) (by kernel_rfl) (by kernel_rfl) (fun _ _ _ h => h) (Or.inr ⟨by rfl, rfl⟩) (by assumption) ?_
      (try simp only [Act.put, List.setIfInBounds_toArray, List.set_cons_zero, List.set_cons_succ])
      refine wpAnyH_take (i := 34) (oi := { dst := some 99, op := Op.fieldAddr 24 (Operand.tmp 13) 0, type := 0, pos := "law.go:53", after := #[{ on := 33, ground := Ground.guard }], guard := some (33, false) }) (v := undef) rfl (by kernel_rfl) (by kernel_rfl) (by kernel_rfl) (fun _ _ _ h => h) (Or.inr ⟨by rfl, rfl⟩) (by assumption) ?_
      (try simp only [Act.put, List.setIfInBounds_toArray, List.set_cons_zero, List.set_cons_succ])
      refine wpAnyH_take (i := 35) (oi := { dst := some 100, op := Op.load 22 (Operand.tmp 99), type := 22, pos := "law.go:53", after := #[{ on := 34, ground := Ground.data }, { on := 33, ground := Ground.guard }], guard := some (33, false) }) (v := undef) rfl (by kernel_rfl) (by kernel_rfl) (by kernel_rfl) (fun _ _ _ h => h) (Or.inr ⟨by rfl, rfl⟩) (by assumption) ?_
      (try simp only [Act.put, List.setIfInBounds_toArray, List.set_cons_zero, List.set_cons_succ])
      refine wpAnyH_take (i := 36) (oi := { dst := some 101, op := Op.move (Operand.tmp 9), type := 3, pos := "law.go:53", after := #[{ on := 33, ground := Ground.guard }], guard := some (33, false) }) (v := undef) rfl (by kernel_rfl) (by kernel_rfl) (by kernel_rfl) (fun _ _ _ h => h) (Or.inr ⟨by rfl, rfl⟩) (by assumption) ?_
      (try simp only [Act.put, List.setIfInBounds_toArray, List.set_cons_zero, List.set_cons_succ])
      refine wpAnyH_take (i := 37) (oi := { dst := some 102, op := Op.binOp BinOp.add 3 (Operand.tmp 101) (Operand.const (Value.int IntKind.i64 1)) 3, type := 3, pos := "law.go:53", after := #[{ on := 36, ground := Ground.data }, { on := 33, ground := Ground.guard }], guard := some (33, false) }) (v := undef) rfl (by kernel_rfl) (by kernel_rfl) (by kernel_rfl) (fun _ _ _ h => h) (Or.inr ⟨by rfl, rfl⟩) (by assumption) ?_
      (try simp only [Act.put, List.setIfInBounds_toArray, List.set_cons_zero, List.set_cons_succ])
      refine wpAnyH_take (i := 38) (oi := { dst := some 103, op := Op.indexAddr 22 (Operand.tmp 100) (Operand.tmp 102), type := 0, pos := "law.go:53", after := #[{ on := 35, ground := Ground.data }, { on := 37, ground := Ground.data }, { on := 33, ground := Ground.guard }], guard := some (33, false) }) (v := undef) rfl (by kernel_rfl) (by kernel_rfl) (by kernel_rfl) (fun _ _ _ h => h) (Or.inr ⟨by rfl, rfl⟩) (by assumption) ?_
      (try simp only [Act.put, List.setIfInBounds_toArray, List.set_cons_zero, List.set_cons_succ])
      refine wpAnyH_take (i := 39) (oi := { dst := some 104, op := Op.load 25 (Operand.tmp 103), type := 25, pos := "law.go:53", after := #[{ on := 38, ground := Ground.data }, { on := 33, ground := Ground.guard }], guard := some (33, false) }) (v := undef) rfl (by kernel_rfl) (by kernel_rfl) (by kernel_rfl) (fun _ _ _ h => h) (Or.inr ⟨by rfl, rfl⟩) (by assumption) ?_
      (try simp only [Act.put, List.setIfInBounds_toArray, List.set_cons_zero, List.set_cons_succ])
      refine wpAnyH_take (i := 40) (oi := { dst := some 105, op := Op.convert 25 9 (Operand.tmp 104), type := 9, pos := "law.go:53", after := #[{ on := 39, ground := Ground.data }, { on := 33, ground := Ground.guard }], guard := some (33, false) }) (v := undef) rfl (by kernel_rfl) (by kernel_rfl) (by kernel_rfl) (fun _ _ _ h => h) (Or.inr ⟨by rfl, rfl⟩) (by assumption) ?_
      (try simp only [Act.put, List.setIfInBounds_toArray, List.set_cons_zero, List.set_cons_succ])
      refine wpAnyH_take (i := 41) (oi := { dst := some 106, op := Op.move (Operand.tmp 1), type := 25, pos := "law.go:53", after := #[{ on := 33, ground := Ground.guard }], guard := some (33, false) }) (v := undef) rfl (by kernel_rfl) (by kernel_rfl) (by kernel_rfl) (fun _ _ _ h => h) (Or.inr ⟨by rfl, rfl⟩) (by assumption) ?_
      (try simp only [Act.put, List.setIfInBounds_toArray, List.set_cons_zero, List.set_cons_succ])
      refine wpAnyH_take (i := 42) (oi := { dst := some 107, op := Op.convert 25 9 (Operand.tmp 106), type := 9, pos := "law.go:53", after := #[{ on := 41, ground := Ground.data }, { on := 33, ground := Ground.guard }], guard := some (33, false) }) (v := undef) rfl (by kernel_rfl) (by kernel_rfl) (by kernel_rfl) (fun _ _ _ h => h) (Or.inr ⟨by rfl, rfl⟩) (by assumption) ?_
      (try simp only [Act.put, List.setIfInBounds_toArray, List.set_cons_zero, List.set_cons_succ])
      refine wpAnyH_take (i := 43) (oi := { dst := some 108, op := Op.binOp BinOp.neq 9 (Operand.tmp 105) (Operand.tmp 107) 9, type := 4, pos := "law.go:53", after := #[{ on := 40, ground := Ground.data }, { on := 42, ground := Ground.data }, { on := 33, ground := Ground.guard }], guard := some (33, false) }) (v := undef) rfl (by kernel_rfl) (by kernel_rfl) (by kernel_rfl) (fun _ _ _ h => h) (Or.inr ⟨by rfl, rfl⟩) (by assumption) ?_
      (try simp only [Act.put, List.setIfInBounds_toArray, List.set_cons_zero, List.set_cons_succ])
      refine wpAnyH_take (i := 44) (oi := { dst := some 109, op := Op.pick (Operand.tmp 98) (Operand.const (Value.bool true)) (Operand.tmp 108), type := 4, pos := "law.go:53", after := #[{ on := 33, ground := Ground.data }, { on := 43, ground := Ground.data }, { on := 26, ground := Ground.guard }], guard := some (26, true) }) (v := undef) rfl (by kernel_rfl) (by kernel_rfl) (by kernel_rfl) (fun _ _ _ h => h) (Or.inr ⟨by rfl, rfl⟩) (by assumption) ?_
      (try simp only [Act.put, List.setIfInBounds_toArray, List.set_cons_zero, List.set_cons_succ])
      refine wpAnyH_take (i := 45) (oi := { dst := some 110, op := Op.pick (Operand.tmp 91) (Operand.tmp 109) (Operand.const (Value.bool false)), type := 4, pos := "law.go:53", after := #[{ on := 26, ground := Ground.data }, { on := 44, ground := Ground.data }, { on := 23, ground := Ground.guard }], guard := some (23, false) }) (v := ?v45) rfl (by kernel_rfl) (by kernel_rfl) (by kernel_rfl) (fun _ _ _ h => h) (Or.inl ⟨by rfl, ?hy45⟩) (by assumption) ?rest45
      case hy45 => (intro wS hS; (try dsimp only at hS); go_simp; (try with_reducible rfl))
      (try simp only [Act.put, List.setIfInBounds_toArray, List.set_cons_zero, List.set_cons_succ])
      refine wpAnyH_take (i := 46) (oi := { dst := some 111, op := Op.pick (Operand.tmp 88) (Operand.const (Value.bool true)) (Operand.tmp 110), type := 4, pos := "law.go:53", after := #[{ on := 23, ground := Ground.data }, { on := 45, ground := Ground.data }], guard := none }) (v := ?v46) rfl (by kernel_rfl) (by kernel_rfl) (by kernel_rfl) (fun _ _ _ h => h) (Or.inl ⟨by rfl, ?hy46⟩) (by assumption) ?rest46
      case hy46 => (intro wS hS; (try dsimp only at hS); go_simp; (try with_reducible rfl))
      (try simp only [Act.put, List.setIfInBounds_toArray, List.set_cons_zero, List.set_cons_succ])
      refine wpAnyH_done (by kernel_rfl) ?_ _
      go_wp2
      go_meet
      case rel => exact ⟨rfl, ⟨hHeld.2.2⟩⟩
  case rest =>
    clear v1 v2 hb0 hw1 hw2 ru rc rt k10c k10f lk10 k13c k13f lk13 k3c k3f lk3
    obtain ⟨rfl, hbc⟩ := hcut
    have n7 := Cell.below ⟨k7c, k7f⟩ hbc.out
    clear k7c k7f lk7
    have lk7 := n7.lt
    obtain ⟨k7c, k7f⟩ := n7
    replace rx := Sealed.mk (rx.out.below hbc.out)
    replace HS := Sealed.mk (below_next HS.out hbc.out)
    clear hbc
    go_wp2_with fail
    refine (wire_Pass _ Anywhere Ax cx X (k : Int) rx.out hcx (by omega) (fun x hx => Nat.le_trans (HX3.out x hx) (by decide))).mono ?_
    rw [K.out]
    rintro e w7 ⟨Au, cu, Bc, dc, rfl, hcu, ru, hdc, rc, hb7⟩
    have n7 := Cell.below ⟨k7c, k7f⟩ hb7
    clear k7c k7f lk7
    have lk7 := n7.lt
    obtain ⟨k7c, k7f⟩ := n7
    replace rx := Sealed.mk (rx.out.below hb7)
    replace HS := Sealed.mk (below_next HS.out hb7)
    replace ru := Sealed.mk ru.any
    replace rc := Sealed.mk rc.any
    clear hb7
    go_wp2_with fail
    obtain ⟨w8, hw8⟩ : ∃ w8, w8 = w7.alloc (.cells #[.slice Au (X.eraseIdx k).length cu] 24) := ⟨_, rfl⟩
    have hb9 : Below w7.heap.size w7 w8 := by rw [hw8]; exact below_alloc _ _
    have n16 : Cell w8 w7.heap.size 0 (.slice Au (X.eraseIdx k).length cu) := by rw [hw8]; exact Cell.new _ _ _
    rw [← hw8]
    clear hw8
    have n7 := Cell.below ⟨k7c, k7f⟩ hb9
    clear k7c k7f lk7
    have lk7 := n7.lt
    obtain ⟨k7c, k7f⟩ := n7
    obtain ⟨k16c, k16f⟩ := n16
    replace rx := Sealed.mk (rx.out.below hb9)
    replace HS := Sealed.mk (below_next HS.out hb9)
    replace ru := Sealed.mk (ru.out.below hb9)
    replace rc := Sealed.mk (rc.out.below hb9)
    clear hb9
    obtain ⟨ad, Ae, ce, hAx, hcell, hce, hre⟩ := rx.out.at_ hkX
    subst hAx
    have v1 : ∀ n, (convert 25 9 (.slice Bc X[k].length dc)).run Try.prog (w8.drewN n) = .ok (.string (str X[k])) (w8.drewN n) := fun n => run_string_of (rc.out.drews n) _ 5 _ Try.underlying25 Try.underlying5 Try.underlying9 dc
    have v2 : ∀ n, (convert 25 9 (.slice Ae X[k].length ce)).run Try.prog (w8.drewN n) = .ok (.string (str X[k])) (w8.drewN n) := fun n => run_string_of (hre.drews n) _ 5 _ Try.underlying25 Try.underlying5 Try.underlying9 ce
    have hul : (X.eraseIdx k).length = L.length := by rw [List.length_eraseIdx, if_pos hkX, HX.out]; rfl
    have g1 : (((X.eraseIdx k).length : Int) != (L.length : Int)) = false := by rw [hul]; simp
    have HUL := Sealed.mk hul
    have hi0 : (0 : Int) ≤ (k : Int) := by omega
    have hi1 : (k : Int) < (X.length : Int) := by omega
    clear hul hre
    go_quiet (fail)
    go_wp2
    clear v1 v2 g1 hcell
    have hua : (X.eraseIdx k).length ≤ L.length := by rw [HUL.out]; exact Nat.le_refl _
    have hub : L.length ≤ (X.eraseIdx k).length := by rw [HUL.out]; exact Nat.le_refl _
    go_loopw [19] (fun v wr => ∃ i m : Nat, i ≤ L.length ∧ v = .int .i64 i ∧ wr = w8.drewN m) (fun v _ => L.length - (intOf v).toNat)
    case atStart => exact ⟨0, nq, Nat.zero_le _, rfl, rfl⟩
    case round =>
      obtain ⟨i, m, hi, rfl, rfl⟩ := hrel
      by_cases hlt : i < L.length
      · by_cases hik : i < k
        · have hik' : ¬ k ≤ i := by omega
          have hf : i < X.length := by omega
          have hue : (X.eraseIdx k)[i]'(by omega) = X[i] := by rw [List.getElem_eraseIdx, dif_pos hik]
          obtain ⟨bd, Ab, cb, hab, hcb, hcb2, hrb⟩ := rx.out.at_ hf
          injection hab with hab
          subst hab
          obtain ⟨ud, Au', cu', hau, hcu', hcu2, hru⟩ := ru.out.at_ (i := i) (by omega)
          subst hau
          rw [hue] at hcu' hru
          have v1 : ∀ n, (convert 25 9 (.slice Ab X[i].length cb)).run Try.prog (w8.drewN n) = .ok (.string (str X[i])) (w8.drewN n) := fun n => run_string_of (hrb.drews n) _ 5 _ Try.underlying25 Try.underlying5 Try.underlying9 cb
          have v2 : ∀ n, (convert 25 9 (.slice Au' X[i].length cu')).run Try.prog (w8.drewN n) = .ok (.string (str X[i])) (w8.drewN n) := fun n => run_string_of (hru.drews n) _ 5 _ Try.underlying25 Try.underlying5 Try.underlying9 cu'
          have HUE := Sealed.mk hue
          have hj0 : (0 : Int) ≤ (i : Int) := by omega
          have hj1 : (i : Int) < ((X.eraseIdx k).length : Int) := by omega
          clear hue hrb hru
          go_wp2
          go_quiet (fail)
          go_wp2
          go_roundw
          case rel => exact ⟨i + 1, _, by omega, by go_num, rfl⟩
          case measure => simp [intOf]; omega
        · have hik' : k ≤ i := by omega
          have hf : i + 1 < X.length := by omega
          have hue : (X.eraseIdx k)[i]'(by omega) = X[i + 1] := by rw [List.getElem_eraseIdx, dif_neg hik]
          obtain ⟨bd, Ab, cb, hab, hcb, hcb2, hrb⟩ := rx.out.at_ hf
          injection hab with hab
          subst hab
          obtain ⟨ud, Au', cu', hau, hcu', hcu2, hru⟩ := ru.out.at_ (i := i) (by omega)
          subst hau
          rw [hue] at hcu' hru
          have v1 : ∀ n, (convert 25 9 (.slice Ab X[i + 1].length cb)).run Try.prog (w8.drewN n) = .ok (.string (str X[i + 1])) (w8.drewN n) := fun n => run_string_of (hrb.drews n) _ 5 _ Try.underlying25 Try.underlying5 Try.underlying9 cb
          have v2 : ∀ n, (convert 25 9 (.slice Au' X[i + 1].length cu')).run Try.prog (w8.drewN n) = .ok (.string (str X[i + 1])) (w8.drewN n) := fun n => run_string_of (hru.drews n) _ 5 _ Try.underlying25 Try.underlying5 Try.underlying9 cu'
          have HUE := Sealed.mk hue
          rw [add_pos _ (show 0 < i + 1 by omega)] at hcb
          have hp0 : (0 : Int) ≤ (i : Int) + 1 := by omega
          have hp1 : (i : Int) + 1 < (X.length : Int) := by omega
          have hj0 : (0 : Int) ≤ (i : Int) := by omega
          have hj1 : (i : Int) < ((X.eraseIdx k).length : Int) := by omega
          clear hue hrb hru
          go_wp2
          go_quiet (fail)
          go_wp2
          go_roundw
          case rel => exact ⟨i + 1, _, by omega, by go_num, rfl⟩
          case measure => simp [intOf]; omega
      · go_wp2
        go_ret
        exact ⟨rfl, below_drews HS.out _⟩
set_option maxHeartbeats 4000000 in
set_option maxRecDepth 100000 in
theorem WireFrames_full (w : World) (A : Option Addr) (c : Nat) (L : List (List UInt8)) (B : Option Addr) (d : Nat) (b : List UInt8) (a : Nat) (hL : Rd2 w Anywhere A L) (hc : L.length ≤ c) (hb : Rd w Anywhere 1 B b.length (bv b)) (hd : b.length ≤ d) (h1 : 200 ≤ L.length) (h1' : L.length ≤ 300) (h3 : ∀ x ∈ L, x.length ≤ 3000) (hl : lists13 L = true) (h2 : b.length ≤ 3000) :
    Calls Try.prog 4 #[.agg #[.slice A L.length c], .slice B b.length d, .int .u8 (a : Int)] w fun e w' => e = .returned (.bool true) ∧ Below w.heap.size w w' := by
  have HL := Sealed.mk hL
  have HB := Sealed.mk hb
  have HA := Sealed.mk hl
  have hm1 : L.length ≤ 9223372036854775807 := by omega
  have h2' : decide (3000 < b.length) = false := by simp; omega
  have h2'' : decide (3000 < (b.length : Int)) = false := by simp; omega
  obtain ⟨z, hz⟩ : ∃ z : Int, z = (putOf L b).2 := ⟨_, rfl⟩
  have hp : putOf L b = (L, z) := by
    rw [hz]
    unfold putOf
    by_cases h : 200 < L.length
    · rw [if_pos h]
    · rw [if_neg h, if_pos (by omega)]
  have hz0 : (z != 0) = true := by
    rw [hz]
    unfold putOf
    by_cases h : 200 < L.length
    · rw [if_pos h]; rfl
    · rw [if_neg h, if_pos (by omega)]; rfl
  have P := Sealed.mk hp
  have g1 : decide ((L.length : Int) < 200) = false := by simp; omega
  have g2 : decide (L.length < 200) = false := by simp; omega
  have g3 : (200 : Int) ≤ (L.length : Int) := by omega
  clear hL hb hl h3 hz hp
  go_enter Try.func4, Try.ntmps4
  go_wp2_with fail
  refine (awake19 _).mono ?_
  rintro e w1 ⟨rfl, hb1⟩
  obtain ⟨k3c, k3f⟩ := (Cell.new w (.slice A L.length c) 24).below hb1
  have HS := Sealed.mk (below_next (below_alloc w (.cells #[.slice A L.length c] 24)) hb1)
  clear hb1
  go_wp2_with fail
  refine (ref13_Lists _ A c L (HL.out.below HS.out) hm1 true HA.out).mono ?_
  rintro e w2 ⟨rfl, hb2⟩
  obtain ⟨k3c, k3f⟩ := Cell.below ⟨k3c, k3f⟩ hb2
  have lk3 := Cell.lt ⟨k3c, k3f⟩
  replace HS := Sealed.mk (below_next HS.out hb2)
  clear hb2
  go_wp2_with fail
  refine (wire_Put _ Anywhere A c L B d b (HL.out.below HS.out) hc (HB.out.below HS.out) hd (by omega) (by omega)).mono ?_
  rw [P.out]
  rintro e w3 ⟨Ax, cx, rfl, hcx, rx, hb3⟩
  obtain ⟨k3c, k3f⟩ := Cell.below ⟨k3c, k3f⟩ hb3
  have lk3 := Cell.lt ⟨k3c, k3f⟩
  replace HS := Sealed.mk (below_next HS.out hb3)
  replace rx := Sealed.mk rx.any
  clear hb3
  go_wp2_with fail
  obtain ⟨w4, hw4⟩ : ∃ w4, w4 = w3.alloc (.cells #[.slice Ax L.length cx] 24) := ⟨_, rfl⟩
  have hb9 : Below w3.heap.size w3 w4 := by rw [hw4]; exact below_alloc _ _
  obtain ⟨k7c, k7f⟩ : Cell w4 w3.heap.size 0 (.slice Ax L.length cx) := by rw [hw4]; exact Cell.new _ _ _
  obtain ⟨k3c, k3f⟩ := Cell.below ⟨k3c, k3f⟩ hb9
  replace HS := Sealed.mk (below_next HS.out hb9)
  replace rx := Sealed.mk (rx.out.below hb9)
  (try rw [← hw4])
  clear hw4 hb9
  refine (ref19_Same _ Ax cx L A c L rx.out (HL.out.below HS.out) (by omega) (by omega) true (by simp)).mono ?_
  rintro e w5 ⟨rfl, hb5⟩
  obtain ⟨k3c, k3f⟩ := Cell.below ⟨k3c, k3f⟩ hb5
  go_wp2
  go_ret
  exact ⟨rfl, below_next HS.out hb5⟩
set_option maxHeartbeats 1000000 in
set_option maxRecDepth 100000 in
theorem WireFrames_true (w : World) (A : Option Addr) (c : Nat) (L : List (List UInt8)) (B : Option Addr) (d : Nat) (b : List UInt8) (a : Int) (hL : Rd2 w Anywhere A L) (hc : L.length ≤ c) (hb : Rd w Anywhere 1 B b.length (bv b)) (hd : b.length ≤ d) (hm1 : L.length ≤ 9223372036854775807) (hm2 : b.length ≤ 9223372036854775807) (ha : (Lit.int .u8 a).wf = true) :
    Calls Try.prog 4 #[.agg #[.slice A L.length c], .slice B b.length d, .int .u8 a] w fun e w' => e = .returned (.bool true) ∧ Below w.heap.size w w' := by
  obtain ⟨ha0, ha1⟩ := Go.bounds_u8 ha
  obtain ⟨a, rfl⟩ := Int.eq_ofNat_of_zero_le ha0
  by_cases hl : lists13 L = true
  · by_cases h2 : b.length ≤ 3000
    · obtain ⟨h1, h3⟩ := lists13_ok hl
      by_cases h5 : L.length < 200
      · exact WireFrames_yes w A c L B d b a hL hc hb hd h5 h3 hl h2 (by omega)
      · exact WireFrames_full w A c L B d b a hL hc hb hd (by omega) h1 h3 hl h2
    · have h2' : decide (3000 < b.length) = true := by simp; omega
      have h2'' : decide (3000 < (b.length : Int)) = true := by simp; omega
      have HL := Sealed.mk hL
      have HA := Sealed.mk hl
      clear hL hb hl h2 ha
      go_enter Try.func4, Try.ntmps4
      go_wp2_with fail
      refine (awake19 _).mono ?_
      rintro e w1 ⟨rfl, hb1⟩
      obtain ⟨k3c, k3f⟩ := (Cell.new w (.slice A L.length c) 24).below hb1
      have HS := Sealed.mk (below_next (below_alloc w (.cells #[.slice A L.length c] 24)) hb1)
      clear hb1
      go_wp2_with fail
      refine (ref13_Lists _ A c L (HL.out.below HS.out) hm1 true HA.out).mono ?_
      rintro e w2 ⟨rfl, hb2⟩
      obtain ⟨k3c, k3f⟩ := Cell.below ⟨k3c, k3f⟩ hb2
      have lk3 := Cell.lt ⟨k3c, k3f⟩
      replace HS := Sealed.mk (below_next HS.out hb2)
      clear hb2
      go_wp2
      go_ret
      exact ⟨rfl, HS.out⟩
  · have hl' : lists13 L = false := by simpa using hl
    have HL := Sealed.mk hL
    have HA := Sealed.mk hl'
    clear hL hb hl hl' ha
    go_enter Try.func4, Try.ntmps4
    go_wp2_with fail
    refine (awake19 _).mono ?_
    rintro e w1 ⟨rfl, hb1⟩
    obtain ⟨k3c, k3f⟩ := (Cell.new w (.slice A L.length c) 24).below hb1
    have HS := Sealed.mk (below_next (below_alloc w (.cells #[.slice A L.length c] 24)) hb1)
    clear hb1
    go_wp2_with fail
    refine (ref13_Lists _ A c L (HL.out.below HS.out) hm1 false HA.out).mono ?_
    rintro e w2 ⟨rfl, hb2⟩
    obtain ⟨k3c, k3f⟩ := Cell.below ⟨k3c, k3f⟩ hb2
    have lk3 := Cell.lt ⟨k3c, k3f⟩
    replace HS := Sealed.mk (below_next HS.out hb2)
    clear hb2
    go_wp2
    go_ret
    exact ⟨rfl, HS.out⟩
end Go.Proofs.Ytkpabmhijpnchaa

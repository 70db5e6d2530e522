/- Layer 19's statement WireRight: its walk. -/
import Derived.Test.YtkpabmhijpnchaaWireAwake
set_option linter.unusedVariables false
set_option linter.unusedSimpArgs false
namespace Go.Proofs.Ytkpabmhijpnchaa
open Go.RowKit
theorem lists13_ok {L : List (List UInt8)} (h : lists13 L = true) : L.length ≤ 300 ∧ ∀ x ∈ L, x.length ≤ 3000 := by
  unfold lists13 at h
  rw [Bool.and_eq_true, decide_eq_true_eq] at h
  refine ⟨h.2, fun x hx => ?_⟩
  have h1 := h.1
  rw [List.take_of_length_le h.2, List.all_eq_true] at h1
  simpa using h1 x hx
theorem passOf_len (L : List (List UInt8)) (a : Int) (h : ∀ x ∈ L, x.length ≤ 3000) : (passOf L a).1.length ≤ L.length ∧ (passOf L a).2.1.length ≤ 3000 := by
  unfold passOf
  split
  · refine ⟨by rw [List.length_eraseIdx]; split <;> omega, ?_⟩
    simp only [List.getD_eq_getElem?_getD]
    rcases hq : L[(placeOf L.length a).1.toNat]? with _ | x
    · simp
    · exact h x (List.mem_of_getElem? hq)
  · exact ⟨Nat.le_refl _, by simp⟩
theorem putOf_len (L : List (List UInt8)) (b : List UInt8) : (putOf L b).1.length ≤ L.length + 1 := by
  unfold putOf
  split
  · simp
  · split <;> simp
theorem twiceOf_len (L : List (List UInt8)) (a : Int) : (twiceOf L a).1.length ≤ L.length + 1 := by
  unfold twiceOf
  split
  · exact putOf_len _ _
  · simp
set_option maxHeartbeats 8000000 in
set_option maxRecDepth 100000 in
theorem WireRight_yes (w : World) (A : Option Addr) (c : Nat) (L : List (List UInt8)) (B : Option Addr) (d : Nat) (b : List UInt8) (a : Int) (hL : Rd2 w Anywhere A L) (hc : L.length ≤ c) (hb : Rd w Anywhere 1 B b.length (bv b)) (hd : b.length ≤ d) (h1 : L.length ≤ 300) (h3 : ∀ x ∈ L, x.length ≤ 3000) (hl : lists13 L = true) (h2 : b.length ≤ 3000) :
    Calls Try.prog 3 #[.agg #[.slice A L.length c], .slice B b.length d, .int .i64 a] w fun e w' => e = .returned (.bool true) ∧ Below w.heap.size w w' := by
  have HL := Sealed.mk hL
  have HB := Sealed.mk hb
  have HA := Sealed.mk hl
  have H3 := Sealed.mk h3
  have h2' : decide (3000 < b.length) = false := by simp; omega
  obtain ⟨p, hp⟩ : ∃ p, p = putOf L b := ⟨_, rfl⟩
  obtain ⟨q, hq⟩ : ∃ q, q = passOf L a := ⟨_, rfl⟩
  obtain ⟨t, ht⟩ : ∃ t, t = twiceOf L a := ⟨_, rfl⟩
  have hpl := putOf_len L b
  have hql := passOf_len L a h3
  have htl := twiceOf_len L a
  rw [← hp] at hpl
  rw [← hq] at hql
  rw [← ht] at htl
  have HP := Sealed.mk hp.symm
  have HQ := Sealed.mk hq.symm
  have HT := Sealed.mk ht.symm
  clear hL hb hl h3 hp hq ht
  go_enter Try.func3, Try.ntmps3
  go_wp2_with fail
  refine (awake19 _).mono ?_
  rintro e w1 ⟨rfl, hb1⟩
  have k3 := (Cell.new w (.slice A L.length c) 24).below hb1
  obtain ⟨k3c, k3f⟩ := k3
  have HS := Sealed.mk (below_next (below_alloc w (.cells #[.slice A L.length c] 24)) hb1)
  clear hb1
  go_wp2_with fail
  refine (ref13_Lists _ A c L (HL.out.below HS.out) (by omega) true HA.out).mono ?_
  rintro e w2 ⟨rfl, hb2⟩
  obtain ⟨k3c, k3f⟩ := Cell.below ⟨k3c, k3f⟩ hb2
  replace HS := Sealed.mk (below_next HS.out hb2)
  clear hb2
  go_wp2_with fail
  refine (wire_Put _ Anywhere A c L B d b (HL.out.below HS.out) hc (HB.out.below HS.out) hd (by omega) (by omega)).mono ?_
  rw [HP.out]
  rintro e w3 ⟨Ax, cx, rfl, hcx, rx, hb3⟩
  obtain ⟨k3c, k3f⟩ := Cell.below ⟨k3c, k3f⟩ hb3
  have lk3 := Cell.lt ⟨k3c, k3f⟩
  have haw3 := Sealed.mk hb3
  replace HS := Sealed.mk (below_next HS.out haw3.out)
  replace rx := Sealed.mk rx.any
  clear hb3
  go_wp2_with fail
  refine (ref19_Put _ Anywhere A c L B d b (HL.out.below (below_next HS.out (below_alloc w3 (.cells #[(.slice Ax p.1.length cx)] 24)))) hc (HB.out.below (below_next HS.out (below_alloc w3 (.cells #[(.slice Ax p.1.length cx)] 24)))) hd (by omega) (by omega)).mono ?_
  rw [HP.out]
  rintro e w4 ⟨Ay, cy, rfl, hcy, ry, hb4⟩
  obtain ⟨k3c, k3f⟩ := (Cell.old ⟨k3c, k3f⟩ (.cells #[(.slice Ax p.1.length cx)] 24)).below hb4
  have lk3 := Cell.lt ⟨k3c, k3f⟩
  obtain ⟨k7c, k7f⟩ := (Cell.new w3 (.slice Ax p.1.length cx) 24).below hb4
  have lk7 := Cell.lt ⟨k7c, k7f⟩
  have haw4 := Sealed.mk (below_next (below_alloc w3 (.cells #[(.slice Ax p.1.length cx)] 24)) hb4)
  replace HS := Sealed.mk (below_next HS.out haw4.out)
  replace rx := Sealed.mk (rx.out.below haw4.out)
  replace ry := Sealed.mk ry.any
  clear hb4
  go_wp2_with fail
  refine (wire_Pass _ Anywhere A c L a (HL.out.below (below_next HS.out (below_alloc w4 (.cells #[(.slice Ay p.1.length cy)] 24)))) hc (by omega) (fun x hx => Nat.le_trans (H3.out x hx) (by decide))).mono ?_
  rw [HQ.out]
  rintro e w5 ⟨Au, cu, Bc, dc, rfl, hcu, ru, hdc, rc, hb5⟩
  obtain ⟨k3c, k3f⟩ := (Cell.old ⟨k3c, k3f⟩ (.cells #[(.slice Ay p.1.length cy)] 24)).below hb5
  have lk3 := Cell.lt ⟨k3c, k3f⟩
  obtain ⟨k7c, k7f⟩ := (Cell.old ⟨k7c, k7f⟩ (.cells #[(.slice Ay p.1.length cy)] 24)).below hb5
  have lk7 := Cell.lt ⟨k7c, k7f⟩
  obtain ⟨k9c, k9f⟩ := (Cell.new w4 (.slice Ay p.1.length cy) 24).below hb5
  have lk9 := Cell.lt ⟨k9c, k9f⟩
  have haw5 := Sealed.mk (below_next (below_alloc w4 (.cells #[(.slice Ay p.1.length cy)] 24)) hb5)
  replace HS := Sealed.mk (below_next HS.out haw5.out)
  replace rx := Sealed.mk (rx.out.below haw5.out)
  replace ry := Sealed.mk (ry.out.below haw5.out)
  replace ru := Sealed.mk ru.any
  replace rc := Sealed.mk rc.any
  clear hb5
  go_wp2_with fail
  refine (ref19_Pass _ Anywhere A c L a (HL.out.below (below_next HS.out (below_alloc w5 (.cells #[(.slice Au q.1.length cu)] 24)))) hc (by omega)).mono ?_
  rw [HQ.out]
  rintro e w6 ⟨Av, cv, Bd, dd, rfl, hcv, rv, hdd, rd, hb6⟩
  obtain ⟨k3c, k3f⟩ := (Cell.old ⟨k3c, k3f⟩ (.cells #[(.slice Au q.1.length cu)] 24)).below hb6
  have lk3 := Cell.lt ⟨k3c, k3f⟩
  obtain ⟨k7c, k7f⟩ := (Cell.old ⟨k7c, k7f⟩ (.cells #[(.slice Au q.1.length cu)] 24)).below hb6
  have lk7 := Cell.lt ⟨k7c, k7f⟩
  obtain ⟨k9c, k9f⟩ := (Cell.old ⟨k9c, k9f⟩ (.cells #[(.slice Au q.1.length cu)] 24)).below hb6
  have lk9 := Cell.lt ⟨k9c, k9f⟩
  obtain ⟨k11c, k11f⟩ := (Cell.new w5 (.slice Au q.1.length cu) 24).below hb6
  have lk11 := Cell.lt ⟨k11c, k11f⟩
  have haw6 := Sealed.mk (below_next (below_alloc w5 (.cells #[(.slice Au q.1.length cu)] 24)) hb6)
  replace HS := Sealed.mk (below_next HS.out haw6.out)
  replace rx := Sealed.mk (rx.out.below haw6.out)
  replace ry := Sealed.mk (ry.out.below haw6.out)
  replace ru := Sealed.mk (ru.out.below haw6.out)
  replace rc := Sealed.mk (rc.out.below haw6.out)
  replace rv := Sealed.mk rv.any
  replace rd := Sealed.mk rd.any
  clear hb6
  go_wp2_with fail
  refine (wire_Twice _ Anywhere A c L a (HL.out.below (below_next HS.out (below_alloc w6 (.cells #[(.slice Av q.1.length cv)] 24)))) hc (by omega) (fun x hx => Nat.le_trans (H3.out x hx) (by decide))).mono ?_
  rw [HT.out]
  rintro e w7 ⟨As, cs, rfl, hcs, rs, hb7⟩
  obtain ⟨k3c, k3f⟩ := (Cell.old ⟨k3c, k3f⟩ (.cells #[(.slice Av q.1.length cv)] 24)).below hb7
  have lk3 := Cell.lt ⟨k3c, k3f⟩
  obtain ⟨k7c, k7f⟩ := (Cell.old ⟨k7c, k7f⟩ (.cells #[(.slice Av q.1.length cv)] 24)).below hb7
  have lk7 := Cell.lt ⟨k7c, k7f⟩
  obtain ⟨k9c, k9f⟩ := (Cell.old ⟨k9c, k9f⟩ (.cells #[(.slice Av q.1.length cv)] 24)).below hb7
  have lk9 := Cell.lt ⟨k9c, k9f⟩
  obtain ⟨k11c, k11f⟩ := (Cell.old ⟨k11c, k11f⟩ (.cells #[(.slice Av q.1.length cv)] 24)).below hb7
  have lk11 := Cell.lt ⟨k11c, k11f⟩
  obtain ⟨k14c, k14f⟩ := (Cell.new w6 (.slice Av q.1.length cv) 24).below hb7
  have lk14 := Cell.lt ⟨k14c, k14f⟩
  have haw7 := Sealed.mk (below_next (below_alloc w6 (.cells #[(.slice Av q.1.length cv)] 24)) hb7)
  replace HS := Sealed.mk (below_next HS.out haw7.out)
  replace rx := Sealed.mk (rx.out.below haw7.out)
  replace ry := Sealed.mk (ry.out.below haw7.out)
  replace ru := Sealed.mk (ru.out.below haw7.out)
  replace rc := Sealed.mk (rc.out.below haw7.out)
  replace rv := Sealed.mk (rv.out.below haw7.out)
  replace rd := Sealed.mk (rd.out.below haw7.out)
  replace rs := Sealed.mk rs.any
  clear hb7
  go_wp2_with fail
  refine (ref19_Twice _ Anywhere A c L a (HL.out.below (below_next HS.out (below_alloc w7 (.cells #[(.slice As t.1.length cs)] 24)))) hc (by omega) (fun x hx => Nat.le_trans (H3.out x hx) (by decide))).mono ?_
  rw [HT.out]
  rintro e w8 ⟨At, ct, rfl, hct, rt, hb8⟩
  obtain ⟨k3c, k3f⟩ := (Cell.old ⟨k3c, k3f⟩ (.cells #[(.slice As t.1.length cs)] 24)).below hb8
  have lk3 := Cell.lt ⟨k3c, k3f⟩
  obtain ⟨k7c, k7f⟩ := (Cell.old ⟨k7c, k7f⟩ (.cells #[(.slice As t.1.length cs)] 24)).below hb8
  have lk7 := Cell.lt ⟨k7c, k7f⟩
  obtain ⟨k9c, k9f⟩ := (Cell.old ⟨k9c, k9f⟩ (.cells #[(.slice As t.1.length cs)] 24)).below hb8
  have lk9 := Cell.lt ⟨k9c, k9f⟩
  obtain ⟨k11c, k11f⟩ := (Cell.old ⟨k11c, k11f⟩ (.cells #[(.slice As t.1.length cs)] 24)).below hb8
  have lk11 := Cell.lt ⟨k11c, k11f⟩
  obtain ⟨k14c, k14f⟩ := (Cell.old ⟨k14c, k14f⟩ (.cells #[(.slice As t.1.length cs)] 24)).below hb8
  have lk14 := Cell.lt ⟨k14c, k14f⟩
  obtain ⟨k17c, k17f⟩ := (Cell.new w7 (.slice As t.1.length cs) 24).below hb8
  have lk17 := Cell.lt ⟨k17c, k17f⟩
  have haw8 := Sealed.mk (below_next (below_alloc w7 (.cells #[(.slice As t.1.length cs)] 24)) hb8)
  replace HS := Sealed.mk (below_next HS.out haw8.out)
  replace rx := Sealed.mk (rx.out.below haw8.out)
  replace ry := Sealed.mk (ry.out.below haw8.out)
  replace ru := Sealed.mk (ru.out.below haw8.out)
  replace rc := Sealed.mk (rc.out.below haw8.out)
  replace rv := Sealed.mk (rv.out.below haw8.out)
  replace rd := Sealed.mk (rd.out.below haw8.out)
  replace rs := Sealed.mk (rs.out.below haw8.out)
  replace rt := Sealed.mk rt.any
  clear hb8
  go_wp2_with fail
  obtain ⟨w9, hw9⟩ : ∃ w9, w9 = w8.alloc (.cells #[.slice At t.1.length ct] 24) := ⟨_, rfl⟩
  have hb9 : Below w8.heap.size w8 w9 := by rw [hw9]; exact below_alloc _ _
  obtain ⟨k19c, k19f⟩ : Cell w9 w8.heap.size 0 (.slice At t.1.length ct) := by rw [hw9]; exact Cell.new _ _ _
  rw [← hw9]
  clear hw9
  obtain ⟨k3c, k3f⟩ := Cell.below ⟨k3c, k3f⟩ hb9
  obtain ⟨k7c, k7f⟩ := Cell.below ⟨k7c, k7f⟩ hb9
  obtain ⟨k9c, k9f⟩ := Cell.below ⟨k9c, k9f⟩ hb9
  obtain ⟨k11c, k11f⟩ := Cell.below ⟨k11c, k11f⟩ hb9
  obtain ⟨k14c, k14f⟩ := Cell.below ⟨k14c, k14f⟩ hb9
  obtain ⟨k17c, k17f⟩ := Cell.below ⟨k17c, k17f⟩ hb9
  replace rx := Sealed.mk (rx.out.below hb9)
  replace ry := Sealed.mk (ry.out.below hb9)
  replace ru := Sealed.mk (ru.out.below hb9)
  replace rc := Sealed.mk (rc.out.below hb9)
  replace rv := Sealed.mk (rv.out.below hb9)
  replace rd := Sealed.mk (rd.out.below hb9)
  replace rs := Sealed.mk (rs.out.below hb9)
  replace rt := Sealed.mk (rt.out.below hb9)
  replace HS := Sealed.mk (below_next HS.out hb9)
  obtain ⟨bl, hbl⟩ : ∃ bl, decide (L.length ≤ 200) = bl := ⟨_, rfl⟩
  have hbl' : decide ((L.length : Int) ≤ 200) = bl := by rw [← hbl]; simp; omega
  have HBL := Sealed.mk hbl
  have hq1 := hql.2
  have v1 : ∀ w', Below w9.heap.size w9 w' → (convert 25 9 (.slice Bc q.2.1.length dc)).run Try.prog w' = .ok (.string (str q.2.1)) w' := fun w' h => run_string_of (rc.out.below h) _ 5 _ Try.underlying25 Try.underlying5 Try.underlying9 dc
  have v2 : ∀ w', Below w9.heap.size w9 w' → (convert 25 9 (.slice Bd q.2.1.length dd)).run Try.prog w' = .ok (.string (str q.2.1)) w' := fun w' h => run_string_of (rd.out.below h) _ 5 _ Try.underlying25 Try.underlying5 Try.underlying9 dd
  have hb0 := Below.refl w9.heap.size w9
  go_region_held3 (fun w' => w'.cell? ⟨w.heap.size, 0, none⟩ = some (.slice A L.length c) ∧ w'.cell? ⟨w3.heap.size, 0, none⟩ = some (.slice Ax p.1.length cx) ∧ w'.cell? ⟨w4.heap.size, 0, none⟩ = some (.slice Ay p.1.length cy) ∧ w'.cell? ⟨w5.heap.size, 0, none⟩ = some (.slice Au q.1.length cu) ∧ w'.cell? ⟨w6.heap.size, 0, none⟩ = some (.slice Av q.1.length cv) ∧ w'.cell? ⟨w7.heap.size, 0, none⟩ = some (.slice As t.1.length cs) ∧ w'.cell? ⟨w8.heap.size, 0, none⟩ = some (.slice At t.1.length ct) ∧ Below w9.heap.size w9 w')
    (first | (refine ⟨?_, ?_, ?_, ?_, ?_, ?_, ?_, ?_⟩ <;> assumption) | (refine ⟨k3c, k7c, k9c, k11c, k14c, k17c, k19c, hb0.drew⟩) | (go_split_ands; refine ⟨cell_below hbz (by assumption), cell_below hbz (by assumption), cell_below hbz (by assumption), cell_below hbz (by assumption), cell_below hbz (by assumption), cell_below hbz (by assumption), cell_below hbz (by assumption), below_next (by assumption) hbz⟩))
    (first
      | (go_at_call 16; refine (wire_Right _ A L.length c (by omega) bl HBL.out).mono ?_; rintro e wz ⟨rfl, hbz⟩)
      | (go_at_call 17; go_split_ands; (with_reducible refine (ref19_Same _ Ax cx p.1 Ay cy p.1 ?h1 ?h2 (by omega) (by omega) true (by simp)).mono ?_); (case h1 => exact rx.out.below (by assumption)); (case h2 => exact ry.out.below (by assumption)); rintro e wz ⟨rfl, hbz⟩)
      | (go_at_call 17; go_split_ands; (with_reducible refine (ref19_Same _ Au cu q.1 Av cv q.1 ?h1 ?h2 (by omega) (by omega) true (by simp)).mono ?_); (case h1 => exact ru.out.below (by assumption)); (case h2 => exact rv.out.below (by assumption)); rintro e wz ⟨rfl, hbz⟩)
      | (go_at_call 17; go_split_ands; (with_reducible refine (ref19_Same _ As cs t.1 At ct t.1 ?h1 ?h2 (by omega) (by omega) true (by simp)).mono ?_); (case h1 => exact rs.out.below (by assumption)); (case h2 => exact rt.out.below (by assumption)); rintro e wz ⟨rfl, hbz⟩))
  go_wp2
  go_ret
  go_split_ands
  exact ⟨rfl, below_next HS.out (by assumption)⟩
set_option maxHeartbeats 1000000 in
set_option maxRecDepth 100000 in
theorem WireRight_true (w : World) (A : Option Addr) (c : Nat) (L : List (List UInt8)) (B : Option Addr) (d : Nat) (b : List UInt8) (a : Int) (hL : Rd2 w Anywhere A L) (hc : L.length ≤ c) (hb : Rd w Anywhere 1 B b.length (bv b)) (hd : b.length ≤ d) (hm1 : L.length ≤ 9223372036854775807) (hm2 : b.length ≤ 9223372036854775807) :
    Calls Try.prog 3 #[.agg #[.slice A L.length c], .slice B b.length d, .int .i64 a] w fun e w' => e = .returned (.bool true) ∧ Below w.heap.size w w' := by
  by_cases hl : lists13 L = true
  · by_cases h2 : b.length ≤ 3000
    · obtain ⟨h1, h3⟩ := lists13_ok hl
      exact WireRight_yes w A c L B d b a hL hc hb hd h1 h3 hl h2
    · have h2' : decide (3000 < b.length) = true := by simp; omega
      have h2'' : decide (3000 < (b.length : Int)) = true := by simp; omega
      have HL := Sealed.mk hL
      have HA := Sealed.mk hl
      clear hL hb hl h2
      go_enter Try.func3, Try.ntmps3
      go_wp2_with fail
      refine (awake19 _).mono ?_
      rintro e w1 ⟨rfl, hb1⟩
      obtain ⟨k3c, k3f⟩ := (Cell.new w (.slice A L.length c) 24).below hb1
      have hs1 := below_next (below_alloc w (.cells #[.slice A L.length c] 24)) hb1
      go_wp2_with fail
      refine (ref13_Lists _ A c L (HL.out.below hs1) hm1 true HA.out).mono ?_
      rintro e w2 ⟨rfl, hb2⟩
      go_wp2
      go_ret
      exact ⟨rfl, below_next hs1 hb2⟩
  · have hl' : lists13 L = false := by simpa using hl
    have HL := Sealed.mk hL
    have HA := Sealed.mk hl'
    clear hL hb hl hl'
    go_enter Try.func3, Try.ntmps3
    go_wp2_with fail
    refine (awake19 _).mono ?_
    rintro e w1 ⟨rfl, hb1⟩
    obtain ⟨k3c, k3f⟩ := (Cell.new w (.slice A L.length c) 24).below hb1
    have hs1 := below_next (below_alloc w (.cells #[.slice A L.length c] 24)) hb1
    go_wp2_with fail
    refine (ref13_Lists _ A c L (HL.out.below hs1) hm1 false HA.out).mono ?_
    rintro e w2 ⟨rfl, hb2⟩
    go_wp2
    go_ret
    exact ⟨rfl, below_next hs1 hb2⟩
end Go.Proofs.Ytkpabmhijpnchaa

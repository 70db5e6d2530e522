/- Layer 8's statement HandTurns: its walk. -/
import Derived.Test.YtkpabmhijpnchaaHandLaw
set_option linter.unusedVariables false
set_option linter.unusedSimpArgs false
namespace Go.Proofs.Ytkpabmhijpnchaa
open Go.RowKit
theorem ar1 {t far : Nat} {n : Int} (h : (t : Int) + n = far) : (((((t % 4096 : Nat) : Int) + n) % 4096).toNat == far % 4096) = true := by rw [beq_iff_eq]; omega
theorem ar2 {t : Nat} {n : Int} : (((((((t % 4096 : Nat) : Int) + n) % 4096).toNat : Int) + -n) % 4096).toNat = t % 4096 := by omega
theorem ar3 {t u : Nat} : ((t % 4096 + u % 4096) % 4096 == (t + u) % 4096) = true := by rw [beq_iff_eq]; omega
theorem ar4 {t u wy : Nat} (h : (((u % 4096 : Nat) : Int) - ((t % 4096 : Nat) : Int)) % 4096 = wy) : (((((t % 4096 : Nat) : Int) + (wy : Int)) % 4096).toNat == u % 4096) = true := by rw [beq_iff_eq]; omega
theorem ar6 {t : Nat} : ((t + 4096) % 4096 == t % 4096) = true := by rw [beq_iff_eq]; omega
theorem ar7 {t u wy bk : Nat} (h : (((u % 4096 : Nat) : Int) - ((t % 4096 : Nat) : Int)) % 4096 = wy) (h' : (((t % 4096 : Nat) : Int) - ((u % 4096 : Nat) : Int)) % 4096 = bk) (hne : ¬ t % 4096 = u % 4096) : (wy : Int) + (bk : Int) = 4096 := by omega
set_option maxHeartbeats 1000000 in
theorem HandTurns_yes (w : World) (t u : Nat) (n : Int) (ht : t < 4294967296) (hu : u < 4294967296) (hn : -32768 ≤ n ∧ n ≤ 32767) : Calls Try.prog 6 #[.int .u32 t, .int .u32 u, .int .i16 n] w fun e w' => e = .returned (.bool true) ∧ Below w.heap.size w w' := by
  have e1 : IntKind.wrap .u64 (t : Int) = (t : Int) := IntWalk.u64_in _ (by omega)
  have e2 : IntKind.wrap .u64 (u : Int) = (u : Int) := IntWalk.u64_in _ (by omega)
  have e3 : IntKind.wrap .i64 (t : Int) = (t : Int) := IntWalk.i64_in _ (by omega)
  have e4 : IntKind.wrap .i64 n = n := IntWalk.i64_in _ (by omega)
  have e5 : IntKind.wrap .i64 (-n) = -n := IntWalk.i64_in _ (by omega)
  have e6 : IntKind.wrap .i64 ((t : Int) + n) = (t : Int) + n := IntWalk.i64_in _ (by omega)
  have e7 : IntKind.wrap .u64 ((t : Int) + (u : Int)) = (t : Int) + (u : Int) := IntWalk.u64_in _ (by omega)
  have e8 : IntKind.wrap .u64 ((t : Int) + 4096) = (t : Int) + 4096 := IntWalk.u64_in _ (by omega)
  obtain ⟨wy, hwy, hwy1⟩ : ∃ wy : Nat, (((u % 4096 : Nat) : Int) - ((t % 4096 : Nat) : Int)) % 4096 = wy ∧ wy < 4096 := ⟨((((u % 4096 : Nat) : Int) - ((t % 4096 : Nat) : Int)) % 4096).toNat, by omega, by omega⟩
  obtain ⟨bk, hbk, hbk1⟩ : ∃ bk : Nat, (((t % 4096 : Nat) : Int) - ((u % 4096 : Nat) : Int)) % 4096 = bk ∧ bk < 4096 := ⟨((((t % 4096 : Nat) : Int) - ((u % 4096 : Nat) : Int)) % 4096).toNat, by omega, by omega⟩
  have e9 : IntKind.wrap .i64 ((wy : Int) + (bk : Int)) = (wy : Int) + (bk : Int) := IntWalk.i64_in _ (by omega)
  obtain ⟨D, hD1, hD2, hD3, hD4⟩ := nextOf_some (now := t) (t := u % 4096) (Nat.mod_lt _ (by decide))
  rw [if_pos (by omega)] at hD4
  have hD5 := (hD3 D hD1 hD2).2 rfl
  have e10 : ((t : Int) < (t + D : Nat)) = True := by simp; omega
  have e11 : (((t + D : Nat) : Int) ≤ (t : Int) + 4096) = True := by simp; omega
  have e12 : ((t : Int) < (t : Int) + (D : Int)) = True := by simp; omega
  have e13 : ((t : Int) + (D : Int) ≤ (t : Int) + 4096) = True := by simp; omega
  have HW := Lib.hid hwy
  have HB := Lib.hid hbk
  have HD := Lib.hid hD4
  have HD5 := Lib.hid hD5
  clear hwy hbk hD4 hD3 hD5
  go_enter Try.func6, Try.ntmps6
  go_wp2_with fail
  refine (awake08 _).mono ?_
  rintro e w1 ⟨rfl, hb1⟩
  go_wp2_with fail
  refine (hand_Of _ t (by omega)).mono ?_
  rintro e w2 ⟨⟨p1, p2, rfl, hp⟩, hb2⟩
  go_wp2_with fail
  refine (hand_Of _ u (by omega)).mono ?_
  rintro e w3 ⟨⟨p3, p4, rfl, hq⟩, hb3⟩
  have hpl := (hd_lt hp).2
  have hql := (hd_lt hq).2
  have HP := Lib.hid hp
  have HQ := Lib.hid hq
  clear hp hq
  go_wp2_with fail
  refine (hand_Way _ _ _ _ _ hpl.1 hpl.2 hql.1 hql.2 (wy : Int) (by rw [HP.out, HQ.out]; exact HW.out)).mono ?_
  rintro e w4 ⟨rfl, hb4⟩
  go_wp2_with fail
  refine (hand_Way _ _ _ _ _ hql.1 hql.2 hpl.1 hpl.2 (bk : Int) (by rw [HP.out, HQ.out]; exact HB.out)).mono ?_
  rintro e w5 ⟨rfl, hb5⟩
  have hb05 := below_next (below_next (below_next (below_next hb1 hb2) hb3) hb4) hb5
  have HS := Sealed.mk hb05
  clear hb1 hb2 hb3 hb4 hb5 hb05
  by_cases hTU : t % 4096 = u % 4096
  · have y1 : wy = 0 := by have := HW.out; omega
    have y2 : bk = 0 := by have := HB.out; omega
    have z1 : ((wy : Int) + (bk : Int) == 4096) = false := by rw [y1, y2]; rfl
    have z2 : ((wy : Int) == 0) = true := by rw [y1]; rfl
    have z3 : ((bk : Int) == 0) = true := by rw [y2]; rfl
    clear hTU y1 y2
    by_cases hfar : 0 ≤ (t : Int) + n
    · obtain ⟨far, hfar1⟩ : ∃ far : Nat, (t : Int) + n = far := ⟨((t : Int) + n).toNat, by omega⟩
      have v1 : (0 ≤ (t : Int) + n) = True := eq_true hfar
      clear hfar
      have v2 : IntKind.wrap .u64 ((t : Int) + n) = (far : Int) := by rw [hfar1]; exact IntWalk.u64_in _ (by omega)
      have HF := Lib.hid hfar1
      have hfl : far < 4294967296 + 32768 := by omega
      clear hfar1
      go_wp2_with fail
      refine (hand_Turn _ _ _ hpl.1 hpl.2 n (by omega)).mono ?_
      rintro e w6 ⟨⟨a1, a2, rfl, hA⟩, hb6⟩
      rw [HP.out] at hA
      have hA' : hd a1 a2 = some ((((t % 4096 : Nat) : Int) + n) % 4096).toNat := hA
      go_wp2_with fail
      refine (hand_Of _ far (by omega)).mono ?_
      rintro e w7 ⟨⟨b1, b2, rfl, hB⟩, hb7⟩
      have x1 := eq_hd hA' hB true (ar1 HF.out)
      have HS' := below_next (below_next HS.out hb6) hb7
      have HS := Sealed.mk HS'
      clear hA hA' hB hb6 hb7 HS'
      go_wp2_with fail
      refine (hand_Turn _ _ _ hpl.1 hpl.2 n (by omega)).mono ?_
      rintro e w8 ⟨⟨c1, c2, rfl, hc⟩, hb8⟩
      rw [HP.out] at hc
      have hc' : hd c1 c2 = some ((((t % 4096 : Nat) : Int) + n) % 4096).toNat := hc
      have hcl := (hd_lt hc').2
      go_wp2_with fail
      refine (hand_Turn _ _ _ hcl.1 hcl.2 (-n) (by omega)).mono ?_
      rintro e w9 ⟨⟨d1, d2, rfl, hdd⟩, hb9⟩
      rw [hc'] at hdd
      have hd2 : hd d1 d2 = some (((((((t % 4096 : Nat) : Int) + n) % 4096).toNat : Int) + -n) % 4096).toNat := hdd
      have x2 := eq_hd hd2 HP.out true (by rw [beq_iff_eq]; exact ar2)
      clear hc hc' hdd hd2
      go_wp2_with fail
      refine (hand_Add _ _ _ _ _ hpl.1 hpl.2 hql.1 hql.2).mono ?_
      rintro e w10 ⟨⟨f1, f2, rfl, hf⟩, hb10⟩
      rw [HP.out, HQ.out] at hf
      go_wp2_with fail
      refine (hand_Of _ (t + u) (by omega)).mono ?_
      rintro e w11 ⟨⟨g1, g2, rfl, hg⟩, hb11⟩
      have x3 := eq_hd (Sum_some hf) hg true ar3
      clear hf hg
      go_wp2_with fail
      refine (hand_Turn _ _ _ hpl.1 hpl.2 (wy : Int) (by omega)).mono ?_
      rintro e w12 ⟨⟨h1, h2, rfl, hh⟩, hb12⟩
      rw [HP.out] at hh
      have hh' : hd h1 h2 = some ((((t % 4096 : Nat) : Int) + (wy : Int)) % 4096).toNat := hh
      have x4 := eq_hd hh' HQ.out true (ar4 HW.out)
      clear hh hh'
      go_wp2_with fail
      refine (hand_Next _ t _ _ (by omega) hql.1 hql.2 (t + D, 0) (by rw [HQ.out]; exact HD.out)).mono ?_
      rintro e w13 ⟨rfl, hb13⟩
      go_wp2_with fail
      refine (hand_Right _ _ _ hpl.1 hpl.2 true (by rw [HP.out]; rfl)).mono ?_
      rintro e w14 ⟨rfl, hb14⟩
      go_wp2_with fail
      refine (hand_Of _ (t + D) (by omega)).mono ?_
      rintro e w15 ⟨⟨i1, i2, rfl, hi⟩, hb15⟩
      have x5 := eq_hd hi HQ.out true (by rw [beq_iff_eq]; exact HD5.out)
      clear hi
      go_wp2_with fail
      refine (hand_Of _ (t + 4096) (by omega)).mono ?_
      rintro e w16 ⟨⟨j1, j2, rfl, hj⟩, hb16⟩
      have x6 := eq_hd hj HP.out true ar6
      clear hj
      go_wp2_with fail
      go_ret
      exact ⟨rfl, below_next (below_next (below_next (below_next (below_next (below_next (below_next (below_next (below_next HS.out hb8) hb9) hb10) hb11) hb12) hb13) hb14) hb15) hb16⟩
    · have v1 : (0 ≤ (t : Int) + n) = False := eq_false hfar
      clear hfar
      go_wp2_with fail
      refine (hand_Turn _ _ _ hpl.1 hpl.2 n (by omega)).mono ?_
      rintro e w8 ⟨⟨c1, c2, rfl, hc⟩, hb8⟩
      rw [HP.out] at hc
      have hc' : hd c1 c2 = some ((((t % 4096 : Nat) : Int) + n) % 4096).toNat := hc
      have hcl := (hd_lt hc').2
      go_wp2_with fail
      refine (hand_Turn _ _ _ hcl.1 hcl.2 (-n) (by omega)).mono ?_
      rintro e w9 ⟨⟨d1, d2, rfl, hdd⟩, hb9⟩
      rw [hc'] at hdd
      have hd2 : hd d1 d2 = some (((((((t % 4096 : Nat) : Int) + n) % 4096).toNat : Int) + -n) % 4096).toNat := hdd
      have x2 := eq_hd hd2 HP.out true (by rw [beq_iff_eq]; exact ar2)
      clear hc hc' hdd hd2
      go_wp2_with fail
      refine (hand_Add _ _ _ _ _ hpl.1 hpl.2 hql.1 hql.2).mono ?_
      rintro e w10 ⟨⟨f1, f2, rfl, hf⟩, hb10⟩
      rw [HP.out, HQ.out] at hf
      go_wp2_with fail
      refine (hand_Of _ (t + u) (by omega)).mono ?_
      rintro e w11 ⟨⟨g1, g2, rfl, hg⟩, hb11⟩
      have x3 := eq_hd (Sum_some hf) hg true ar3
      clear hf hg
      go_wp2_with fail
      refine (hand_Turn _ _ _ hpl.1 hpl.2 (wy : Int) (by omega)).mono ?_
      rintro e w12 ⟨⟨h1, h2, rfl, hh⟩, hb12⟩
      rw [HP.out] at hh
      have hh' : hd h1 h2 = some ((((t % 4096 : Nat) : Int) + (wy : Int)) % 4096).toNat := hh
      have x4 := eq_hd hh' HQ.out true (ar4 HW.out)
      clear hh hh'
      go_wp2_with fail
      refine (hand_Next _ t _ _ (by omega) hql.1 hql.2 (t + D, 0) (by rw [HQ.out]; exact HD.out)).mono ?_
      rintro e w13 ⟨rfl, hb13⟩
      go_wp2_with fail
      refine (hand_Right _ _ _ hpl.1 hpl.2 true (by rw [HP.out]; rfl)).mono ?_
      rintro e w14 ⟨rfl, hb14⟩
      go_wp2_with fail
      refine (hand_Of _ (t + D) (by omega)).mono ?_
      rintro e w15 ⟨⟨i1, i2, rfl, hi⟩, hb15⟩
      have x5 := eq_hd hi HQ.out true (by rw [beq_iff_eq]; exact HD5.out)
      clear hi
      go_wp2_with fail
      refine (hand_Of _ (t + 4096) (by omega)).mono ?_
      rintro e w16 ⟨⟨j1, j2, rfl, hj⟩, hb16⟩
      have x6 := eq_hd hj HP.out true ar6
      clear hj
      go_wp2_with fail
      go_ret
      exact ⟨rfl, below_next (below_next (below_next (below_next (below_next (below_next (below_next (below_next (below_next HS.out hb8) hb9) hb10) hb11) hb12) hb13) hb14) hb15) hb16⟩
  · have z0 : (wy : Int) + (bk : Int) = 4096 := ar7 HW.out HB.out hTU
    have z1 : ((wy : Int) + (bk : Int) == 4096) = true := by rw [beq_iff_eq]; exact z0
    clear hTU z0
    by_cases hfar : 0 ≤ (t : Int) + n
    · obtain ⟨far, hfar1⟩ : ∃ far : Nat, (t : Int) + n = far := ⟨((t : Int) + n).toNat, by omega⟩
      have v1 : (0 ≤ (t : Int) + n) = True := eq_true hfar
      clear hfar
      have v2 : IntKind.wrap .u64 ((t : Int) + n) = (far : Int) := by rw [hfar1]; exact IntWalk.u64_in _ (by omega)
      have HF := Lib.hid hfar1
      have hfl : far < 4294967296 + 32768 := by omega
      clear hfar1
      go_wp2_with fail
      refine (hand_Turn _ _ _ hpl.1 hpl.2 n (by omega)).mono ?_
      rintro e w6 ⟨⟨a1, a2, rfl, hA⟩, hb6⟩
      rw [HP.out] at hA
      have hA' : hd a1 a2 = some ((((t % 4096 : Nat) : Int) + n) % 4096).toNat := hA
      go_wp2_with fail
      refine (hand_Of _ far (by omega)).mono ?_
      rintro e w7 ⟨⟨b1, b2, rfl, hB⟩, hb7⟩
      have x1 := eq_hd hA' hB true (ar1 HF.out)
      have HS' := below_next (below_next HS.out hb6) hb7
      have HS := Sealed.mk HS'
      clear hA hA' hB hb6 hb7 HS'
      go_wp2_with fail
      refine (hand_Turn _ _ _ hpl.1 hpl.2 n (by omega)).mono ?_
      rintro e w8 ⟨⟨c1, c2, rfl, hc⟩, hb8⟩
      rw [HP.out] at hc
      have hc' : hd c1 c2 = some ((((t % 4096 : Nat) : Int) + n) % 4096).toNat := hc
      have hcl := (hd_lt hc').2
      go_wp2_with fail
      refine (hand_Turn _ _ _ hcl.1 hcl.2 (-n) (by omega)).mono ?_
      rintro e w9 ⟨⟨d1, d2, rfl, hdd⟩, hb9⟩
      rw [hc'] at hdd
      have hd2 : hd d1 d2 = some (((((((t % 4096 : Nat) : Int) + n) % 4096).toNat : Int) + -n) % 4096).toNat := hdd
      have x2 := eq_hd hd2 HP.out true (by rw [beq_iff_eq]; exact ar2)
      clear hc hc' hdd hd2
      go_wp2_with fail
      refine (hand_Add _ _ _ _ _ hpl.1 hpl.2 hql.1 hql.2).mono ?_
      rintro e w10 ⟨⟨f1, f2, rfl, hf⟩, hb10⟩
      rw [HP.out, HQ.out] at hf
      go_wp2_with fail
      refine (hand_Of _ (t + u) (by omega)).mono ?_
      rintro e w11 ⟨⟨g1, g2, rfl, hg⟩, hb11⟩
      have x3 := eq_hd (Sum_some hf) hg true ar3
      clear hf hg
      go_wp2_with fail
      refine (hand_Turn _ _ _ hpl.1 hpl.2 (wy : Int) (by omega)).mono ?_
      rintro e w12 ⟨⟨h1, h2, rfl, hh⟩, hb12⟩
      rw [HP.out] at hh
      have hh' : hd h1 h2 = some ((((t % 4096 : Nat) : Int) + (wy : Int)) % 4096).toNat := hh
      have x4 := eq_hd hh' HQ.out true (ar4 HW.out)
      clear hh hh'
      go_wp2_with fail
      refine (hand_Next _ t _ _ (by omega) hql.1 hql.2 (t + D, 0) (by rw [HQ.out]; exact HD.out)).mono ?_
      rintro e w13 ⟨rfl, hb13⟩
      go_wp2_with fail
      refine (hand_Right _ _ _ hpl.1 hpl.2 true (by rw [HP.out]; rfl)).mono ?_
      rintro e w14 ⟨rfl, hb14⟩
      go_wp2_with fail
      refine (hand_Of _ (t + D) (by omega)).mono ?_
      rintro e w15 ⟨⟨i1, i2, rfl, hi⟩, hb15⟩
      have x5 := eq_hd hi HQ.out true (by rw [beq_iff_eq]; exact HD5.out)
      clear hi
      go_wp2_with fail
      refine (hand_Of _ (t + 4096) (by omega)).mono ?_
      rintro e w16 ⟨⟨j1, j2, rfl, hj⟩, hb16⟩
      have x6 := eq_hd hj HP.out true ar6
      clear hj
      go_wp2_with fail
      go_ret
      exact ⟨rfl, below_next (below_next (below_next (below_next (below_next (below_next (below_next (below_next (below_next HS.out hb8) hb9) hb10) hb11) hb12) hb13) hb14) hb15) hb16⟩
    · have v1 : (0 ≤ (t : Int) + n) = False := eq_false hfar
      clear hfar
      go_wp2_with fail
      refine (hand_Turn _ _ _ hpl.1 hpl.2 n (by omega)).mono ?_
      rintro e w8 ⟨⟨c1, c2, rfl, hc⟩, hb8⟩
      rw [HP.out] at hc
      have hc' : hd c1 c2 = some ((((t % 4096 : Nat) : Int) + n) % 4096).toNat := hc
      have hcl := (hd_lt hc').2
      go_wp2_with fail
      refine (hand_Turn _ _ _ hcl.1 hcl.2 (-n) (by omega)).mono ?_
      rintro e w9 ⟨⟨d1, d2, rfl, hdd⟩, hb9⟩
      rw [hc'] at hdd
      have hd2 : hd d1 d2 = some (((((((t % 4096 : Nat) : Int) + n) % 4096).toNat : Int) + -n) % 4096).toNat := hdd
      have x2 := eq_hd hd2 HP.out true (by rw [beq_iff_eq]; exact ar2)
      clear hc hc' hdd hd2
      go_wp2_with fail
      refine (hand_Add _ _ _ _ _ hpl.1 hpl.2 hql.1 hql.2).mono ?_
      rintro e w10 ⟨⟨f1, f2, rfl, hf⟩, hb10⟩
      rw [HP.out, HQ.out] at hf
      go_wp2_with fail
      refine (hand_Of _ (t + u) (by omega)).mono ?_
      rintro e w11 ⟨⟨g1, g2, rfl, hg⟩, hb11⟩
      have x3 := eq_hd (Sum_some hf) hg true ar3
      clear hf hg
      go_wp2_with fail
      refine (hand_Turn _ _ _ hpl.1 hpl.2 (wy : Int) (by omega)).mono ?_
      rintro e w12 ⟨⟨h1, h2, rfl, hh⟩, hb12⟩
      rw [HP.out] at hh
      have hh' : hd h1 h2 = some ((((t % 4096 : Nat) : Int) + (wy : Int)) % 4096).toNat := hh
      have x4 := eq_hd hh' HQ.out true (ar4 HW.out)
      clear hh hh'
      go_wp2_with fail
      refine (hand_Next _ t _ _ (by omega) hql.1 hql.2 (t + D, 0) (by rw [HQ.out]; exact HD.out)).mono ?_
      rintro e w13 ⟨rfl, hb13⟩
      go_wp2_with fail
      refine (hand_Right _ _ _ hpl.1 hpl.2 true (by rw [HP.out]; rfl)).mono ?_
      rintro e w14 ⟨rfl, hb14⟩
      go_wp2_with fail
      refine (hand_Of _ (t + D) (by omega)).mono ?_
      rintro e w15 ⟨⟨i1, i2, rfl, hi⟩, hb15⟩
      have x5 := eq_hd hi HQ.out true (by rw [beq_iff_eq]; exact HD5.out)
      clear hi
      go_wp2_with fail
      refine (hand_Of _ (t + 4096) (by omega)).mono ?_
      rintro e w16 ⟨⟨j1, j2, rfl, hj⟩, hb16⟩
      have x6 := eq_hd hj HP.out true ar6
      clear hj
      go_wp2_with fail
      go_ret
      exact ⟨rfl, below_next (below_next (below_next (below_next (below_next (below_next (below_next (below_next (below_next HS.out hb8) hb9) hb10) hb11) hb12) hb13) hb14) hb15) hb16⟩
theorem HandTurns_row (w : World) (t u n : Int) (ht : (Lit.int .u32 t).wf = true) (hu : (Lit.int .u32 u).wf = true) (hn : (Lit.int .i16 n).wf = true) : Calls Try.prog 6 #[.int .u32 t, .int .u32 u, .int .i16 n] w fun e w' => e = .returned (.bool true) ∧ Below w.heap.size w w' := by
  have h1 := wf_int ht
  have h2 := wf_int hu
  have h3 := wf_int hn
  have u1 : IntKind.min .u32 = 0 := by decide
  have u2 : IntKind.max .u32 = 4294967295 := by decide
  have u3 : IntKind.min .i16 = -32768 := by decide
  have u4 : IntKind.max .i16 = 32767 := by decide
  rw [u1, u2] at h1 h2
  rw [u3, u4] at h3
  obtain ⟨t, rfl⟩ : ∃ x : Nat, t = x := ⟨t.toNat, by omega⟩
  obtain ⟨u, rfl⟩ : ∃ x : Nat, u = x := ⟨u.toNat, by omega⟩
  exact HandTurns_yes w t u n (by omega) (by omega) h3
end Go.Proofs.Ytkpabmhijpnchaa

/- Layer 8's statements: the walks. -/
import Derived.Test.YtkpabmhijpnchaaHandR
set_option linter.unusedVariables false
set_option linter.unusedSimpArgs false
namespace Go.Proofs.Ytkpabmhijpnchaa
open Go.RowKit
theorem c21 : hd 4611686018427387904 4607182418800017408 = some 129 := by decide +kernel
theorem c22 : hd 4611686018427387904 4611686018427387904 = some 130 := by decide +kernel
theorem c00 : hd 0 0 = some 0 := by decide +kernel
theorem c163 : hd 4607182418800017408 4634063279075885056 = some 127 := by decide +kernel
theorem c02 : hd 0 4611686018427387904 = some 2 := by decide +kernel
theorem c6363 : hd 4634063279075885056 4634063279075885056 = some 4095 := by decide +kernel
theorem c630 : hd 4634063279075885056 0 = some 4032 := by decide +kernel
theorem c640 : hd 4634204016564240384 0 = none := by decide +kernel
theorem eq_hd {a b c d s t : Nat} (h : hd a b = some s) (h' : hd c d = some t) (r : Bool) (hr : (s == t) = r) : ((FloatKind.f64.format.order a c == some .eq) && (FloatKind.f64.format.order b d == some .eq)) = r := by rw [← hr]; exact hd_eq h h'
set_option maxHeartbeats 4000000 in
theorem awake08 (w : World) : Calls Try.prog 18 #[] w fun e w' => e = .returned (.bool true) ∧ Below w.heap.size w w' := by
  go_enter Try.func18, Try.ntmps18
  go_wp2_with fail
  refine (hand_Next _ 130 _ _ (by decide) (by decide) (by decide) (4225, 0) (by rw [c21]; decide)).mono ?_
  rintro e w1 ⟨rfl, hb1⟩
  go_wp2_with fail
  refine (hand_Next _ 18446744073709551614 _ _ (by decide) (by decide) (by decide) (0, 10) (by rw [c00]; decide)).mono ?_
  rintro e w2 ⟨rfl, hb2⟩
  go_wp2_with fail
  refine (hand_Of _ 130 (by decide)).mono ?_
  rintro e w3 ⟨⟨p1, p2, rfl, hp⟩, hb3⟩
  have x1 := eq_hd hp c22 true rfl
  go_wp2_with fail
  refine (hand_Add _ _ _ _ _ (by decide) (by decide) (by decide) (by decide)).mono ?_
  rintro e w4 ⟨⟨q1, q2, rfl, hq⟩, hb4⟩
  rw [c163, c02] at hq
  have x2 := eq_hd (Sum_some hq) c21 true rfl
  go_wp2_with fail
  refine (hand_Turn _ _ _ (by decide) (by decide) _ (by decide)).mono ?_
  rintro e w5 ⟨⟨r1, r2, rfl, hr⟩, hb5⟩
  rw [c00] at hr
  have hr' : hd r1 r2 = some 4095 := hr
  have x3 := eq_hd hr' c6363 true rfl
  go_wp2_with fail
  refine (hand_Way _ _ _ _ _ (by decide) (by decide) (by decide) (by decide) 4095 (by rw [c22, c21]; decide)).mono ?_
  rintro e w6 ⟨rfl, hb6⟩
  go_wp2_with fail
  refine (hand_Right _ _ _ (by decide) (by decide) true (by rw [c630]; rfl)).mono ?_
  rintro e w7 ⟨rfl, hb7⟩
  go_wp2_with fail
  refine (hand_Right _ _ _ (by decide) (by decide) false (by rw [c640]; rfl)).mono ?_
  rintro e w8 ⟨rfl, hb8⟩
  go_wp2_with fail
  go_ret
  exact ⟨rfl, below_next (below_next (below_next (below_next (below_next (below_next (below_next hb1 hb2) hb3) hb4) hb5) hb6) hb7) hb8⟩
theorem law_hands (w : World) (a b : Nat) : Calls Try.prog 19 #[.float .f64 a, .float .f64 b] w fun e w' => e = .returned (.complex .f64 a b) ∧ Below w.heap.size w w' := by
  go_enter Try.func19, Try.ntmps19
  go_wp2
  go_ret
  exact ⟨rfl, Below.refl _ _⟩
theorem Sum_eq {o1 o2 : Option Nat} {a b c d : Nat} (h : Sum o1 o2 a b) (h' : Sum o1 o2 c d) : ((FloatKind.f64.format.order a c == some .eq) && (FloatKind.f64.format.order b d == some .eq)) = true := by
  cases o1 with
  | none =>
    obtain ⟨rfl, rfl⟩ := (h : a = 0 ∧ b = 0)
    obtain ⟨rfl, rfl⟩ := (h' : c = 0 ∧ d = 0)
    exact eq00
  | some s =>
    cases o2 with
    | none =>
      obtain ⟨rfl, rfl⟩ := (h : a = 0 ∧ b = 0)
      obtain ⟨rfl, rfl⟩ := (h' : c = 0 ∧ d = 0)
      exact eq00
    | some t => exact eq_hd (Sum_some h) (Sum_some h') true (by simp)
theorem Turned_eq {o : Option Nat} {n : Int} {a b c d : Nat} (h : Turned o n a b) (h' : Turned o n c d) : ((FloatKind.f64.format.order a c == some .eq) && (FloatKind.f64.format.order b d == some .eq)) = true := by
  cases o with
  | none =>
    obtain ⟨rfl, rfl⟩ := (h : a = 0 ∧ b = 0)
    obtain ⟨rfl, rfl⟩ := (h' : c = 0 ∧ d = 0)
    exact eq00
  | some s =>
    have h1 : hd a b = some (((s : Int) + n) % 4096).toNat := h
    have h2 : hd c d = some (((s : Int) + n) % 4096).toNat := h'
    exact eq_hd h1 h2 true (by simp)
theorem right_tick (o : Option Nat) : (o.isSome == decide ((0 : Int) ≤ tickOf o)) = true := by
  cases o with
  | none => rfl
  | some s =>
    have : decide ((0 : Int) ≤ tickOf (some s)) = true := by simp [tickOf]
    rw [this]; rfl
set_option maxHeartbeats 4000000 in
theorem HandRight_yes (w : World) (a b c d tick : Nat) (n : Int) (ha : a < 2 ^ 64) (hb : b < 2 ^ 64) (hc : c < 2 ^ 64) (hd' : d < 2 ^ 64) (ht : tick < 2 ^ 64) (hn : -9223372036854775808 ≤ n ∧ n ≤ 9223372036854775807) : Calls Try.prog 5 #[.float .f64 a, .float .f64 b, .float .f64 c, .float .f64 d, .int .u64 tick, .int .i64 n] w fun e w' => e = .returned (.bool true) ∧ Below w.heap.size w w' := by
  obtain ⟨r, hr⟩ : ∃ r, nextOf tick (hd a b) = r := ⟨_, rfl⟩
  obtain ⟨bb, hbb⟩ : ∃ bb, (hd a b).isSome = bb := ⟨_, rfl⟩
  obtain ⟨tt, htt⟩ : ∃ tt, tickOf (hd a b) = tt := ⟨_, rfl⟩
  obtain ⟨wy, hwy⟩ : ∃ wy, way (hd a b) (hd c d) = wy := ⟨_, rfl⟩
  have y1 := right_tick (hd a b)
  rw [hbb, htt] at y1
  have HR := Lib.hid hr
  have HB := Lib.hid hbb
  have HT := Lib.hid htt
  have HW := Lib.hid hwy
  clear hr hbb htt hwy
  go_enter Try.func5, Try.ntmps5
  go_wp2_with fail
  refine (awake08 _).mono ?_
  rintro e w1 ⟨rfl, hb1⟩
  go_wp2_with fail
  refine (law_hands _ _ _).mono ?_
  rintro e w2 ⟨rfl, hb2⟩
  go_wp2_with fail
  refine (law_hands _ _ _).mono ?_
  rintro e w3 ⟨rfl, hb3⟩
  go_wp2_with fail
  refine (hand_Next _ tick _ _ ht ha hb r HR.out).mono ?_
  rintro e w4 ⟨rfl, hb4⟩
  go_wp2_with fail
  refine (ref_Next _ tick _ _ ht ha hb r HR.out).mono ?_
  rintro e w5 ⟨rfl, hb5⟩
  go_wp2_with fail
  refine (hand_Right _ _ _ ha hb bb HB.out).mono ?_
  rintro e w6 ⟨rfl, hb6⟩
  go_wp2_with fail
  refine (ref_Tick _ _ _ ha hb tt HT.out).mono ?_
  rintro e w7 ⟨rfl, hb7⟩
  go_wp2_with fail
  refine (hand_Of _ tick ht).mono ?_
  rintro e w8 ⟨⟨p1, p2, rfl, hp⟩, hb8⟩
  go_wp2_with fail
  refine (ref_Of _ tick ht).mono ?_
  rintro e w9 ⟨⟨p3, p4, rfl, hp'⟩, hb9⟩
  have x1 := eq_hd hp hp' true (by simp)
  clear hp hp'
  go_wp2_with fail
  refine (hand_Add _ _ _ _ _ ha hb hc hd').mono ?_
  rintro e w10 ⟨⟨q1, q2, rfl, hq⟩, hb10⟩
  go_wp2_with fail
  refine (ref_Add _ _ _ _ _ ha hb hc hd').mono ?_
  rintro e w11 ⟨⟨q3, q4, rfl, hq'⟩, hb11⟩
  have x2 := Sum_eq hq hq'
  clear hq hq'
  go_wp2_with fail
  refine (hand_Turn _ _ _ ha hb n hn).mono ?_
  rintro e w12 ⟨⟨r1, r2, rfl, hr⟩, hb12⟩
  go_wp2_with fail
  refine (ref_Turn _ _ _ ha hb n hn).mono ?_
  rintro e w13 ⟨⟨r3, r4, rfl, hr'⟩, hb13⟩
  have x3 := Turned_eq hr hr'
  clear hr hr'
  go_wp2_with fail
  refine (hand_Way _ _ _ _ _ ha hb hc hd' wy HW.out).mono ?_
  rintro e w14 ⟨rfl, hb14⟩
  go_wp2_with fail
  refine (ref_Way _ _ _ _ _ ha hb hc hd' wy HW.out).mono ?_
  rintro e w15 ⟨rfl, hb15⟩
  go_wp2_with fail
  go_ret
  exact ⟨rfl, below_next (below_next (below_next (below_next (below_next (below_next (below_next (below_next (below_next (below_next (below_next (below_next (below_next (below_next hb1 hb2) hb3) hb4) hb5) hb6) hb7) hb8) hb9) hb10) hb11) hb12) hb13) hb14) hb15⟩
theorem wf_f64 {b : Nat} (h : (Lit.float .f64 b).wf = true) : b < 2 ^ 64 := by simpa [Lit.wf] using h
theorem wf_int {k : IntKind} {n : Int} (h : (Lit.int k n).wf = true) : k.min ≤ n ∧ n ≤ k.max := by simpa [Lit.wf] using h
theorem HandRight_row (w : World) (a b c d : Nat) (tick n : Int) (ha : (Lit.float .f64 a).wf = true) (hb : (Lit.float .f64 b).wf = true) (hc : (Lit.float .f64 c).wf = true) (hd' : (Lit.float .f64 d).wf = true) (ht : (Lit.int .u64 tick).wf = true) (hn : (Lit.int .i64 n).wf = true) : Calls Try.prog 5 #[.float .f64 a, .float .f64 b, .float .f64 c, .float .f64 d, .int .u64 tick, .int .i64 n] w fun e w' => e = .returned (.bool true) ∧ Below w.heap.size w w' := by
  have h1 := wf_int ht
  have h2 := wf_int hn
  have u1 : IntKind.min .u64 = 0 := by decide
  have u2 : IntKind.max .u64 = 18446744073709551615 := by decide
  have u3 : IntKind.min .i64 = -9223372036854775808 := by decide
  have u4 : IntKind.max .i64 = 9223372036854775807 := by decide
  rw [u1, u2] at h1
  rw [u3, u4] at h2
  obtain ⟨t, rfl⟩ : ∃ t : Nat, tick = t := ⟨tick.toNat, by omega⟩
  exact HandRight_yes w a b c d t n (wf_f64 ha) (wf_f64 hb) (wf_f64 hc) (wf_f64 hd') (by omega) h2
end Go.Proofs.Ytkpabmhijpnchaa

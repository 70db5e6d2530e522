/- The hands: carried, Add, Turn, Way, Next. -/
import Derived.Test.YtkpabmhijpnchaaHandA
set_option linter.unusedVariables false
set_option linter.unusedSimpArgs false
namespace Go.Proofs.Ytkpabmhijpnchaa
open Go.RowKit
theorem sum_add {a b c d z1 z2 : Nat} (h1 : Ieee.double.add a c = some z1) (h2 : Ieee.double.add b d = some z2) (P : Program) (t : TypeId) (w : World) : (binOp .add t (.complex .f64 a b) (.complex .f64 c d)).run P w = .ok (.complex .f64 z1 z2) w := by
  refine run_complex_sum w .add (.inl rfl) t .f64 _ _ _ _ _ _ ?_
  unfold cSumBits
  have e1 : floatBits .add .f64 a c = some z1 := h1
  have e2 : floatBits .add .f64 b d = some z2 := h2
  rw [e1, e2]; rfl
theorem sum_sub {a b c d z1 z2 : Nat} (h1 : Ieee.double.sub a c = some z1) (h2 : Ieee.double.sub b d = some z2) (P : Program) (t : TypeId) (w : World) : (binOp .sub t (.complex .f64 a b) (.complex .f64 c d)).run P w = .ok (.complex .f64 z1 z2) w := by
  refine run_complex_sum w .sub (.inr rfl) t .f64 _ _ _ _ _ _ ?_
  unfold cSumBits
  have e1 : floatBits .sub .f64 a c = some z1 := h1
  have e2 : floatBits .sub .f64 b d = some z2 := h2
  rw [e1, e2]; rfl
theorem ge_at {x i : Nat} (hi : i < 192) (hx : Num x i) (b : Bool) (hb : decide (64 ≤ i) = b) : (FloatKind.f64.format.order x 4634204016564240384 == some .gt || FloatKind.f64.format.order x 4634204016564240384 == some .eq) = b := by
  rw [← hb]; exact num_ge hi hx
theorem hand_carried (w : World) (p q m n : Nat) (hm : m < 127) (hn : n < 127) (hp : Num p m) (hq : Num q n) : Calls Try.prog 44 #[.complex .f64 p q] w fun e w' => (∃ r1 r2, e = .returned (.complex .f64 r1 r2) ∧ Num r1 ((m + n / 64) % 64) ∧ Num r2 (n % 64)) ∧ Below w.heap.size w w' := by
  by_cases hn1 : 64 ≤ n
  · have g1 := ge_at (by omega) hq true (by simp; omega)
    obtain ⟨z1, a1, k1⟩ := num_add1 (by omega) hp
    obtain ⟨⟨z2, a2, k2⟩, _⟩ := num_m64 (by omega) hn1 hq
    have s1 := sum_add a1 a2 Try.prog 45
    unfold m64 at s1
    by_cases hm1 : 64 ≤ m + 1
    · have g2 := ge_at (by omega) k1 true (by simp; omega)
      obtain ⟨_, ⟨y1, b1, l1⟩⟩ := num_m64 (by omega) hm1 k1
      obtain ⟨y2, b2, l2⟩ := num_sub0 (by omega) k2
      have s2 := sum_sub b1 b2 Try.prog 45
      unfold c64 at s2
      go_enter Try.func44, Try.ntmps44
      go_wp2
      go_ret
      exact ⟨⟨_, _, rfl, by rw [show (m + n / 64) % 64 = m + 1 - 64 from by omega]; exact l1, by rw [show n % 64 = n - 64 from by omega]; exact l2⟩, Below.refl _ _⟩
    · have g2 := ge_at (by omega) k1 false (by simp; omega)
      go_enter Try.func44, Try.ntmps44
      go_wp2
      go_ret
      exact ⟨⟨_, _, rfl, by rw [show (m + n / 64) % 64 = m + 1 from by omega]; exact k1, by rw [show n % 64 = n - 64 from by omega]; exact k2⟩, Below.refl _ _⟩
  · have g1 := ge_at (by omega) hq false (by simp; omega)
    by_cases hm1 : 64 ≤ m
    · have g2 := ge_at (by omega) hp true (by simp; omega)
      obtain ⟨_, ⟨y1, b1, l1⟩⟩ := num_m64 (by omega) hm1 hp
      obtain ⟨y2, b2, l2⟩ := num_sub0 (by omega) hq
      have s2 := sum_sub b1 b2 Try.prog 45
      unfold c64 at s2
      go_enter Try.func44, Try.ntmps44
      go_wp2
      go_ret
      exact ⟨⟨_, _, rfl, by rw [show (m + n / 64) % 64 = m - 64 from by omega]; exact l1, by rw [show n % 64 = n from by omega]; exact l2⟩, Below.refl _ _⟩
    · have g2 := ge_at (by omega) hp false (by simp; omega)
      go_enter Try.func44, Try.ntmps44
      go_wp2
      go_ret
      exact ⟨⟨_, _, rfl, by rw [show (m + n / 64) % 64 = m from by omega]; exact hp, by rw [show n % 64 = n from by omega]; exact hq⟩, Below.refl _ _⟩
/-- What a sum of hands' words is. -/
def Sum (o1 o2 : Option Nat) (r1 r2 : Nat) : Prop := match o1, o2 with
  | some s, some t => hd r1 r2 = some ((s + t) % 4096)
  | _, _ => r1 = 0 ∧ r2 = 0
theorem hand_Add (w : World) (a b c d : Nat) (ha : a < 2 ^ 64) (hb : b < 2 ^ 64) (hc : c < 2 ^ 64) (hd' : d < 2 ^ 64) : Calls Try.prog 26 #[.complex .f64 a b, .complex .f64 c d] w fun e w' => (∃ r1 r2, e = .returned (.complex .f64 r1 r2) ∧ Sum (hd a b) (hd c d) r1 r2) ∧ Below w.heap.size w w' := by
  cases h1 : hd a b with
  | none =>
    go_enter Try.func26, Try.ntmps26
    go_wp2_with (go_at_call 22; refine (hand_Right _ _ _ ha hb false (by rw [h1]; rfl)).mono ?_; rintro e w1 ⟨rfl, hb1⟩; obtain ⟨hc1, hf1⟩ := bcell hb1)
    go_ret
    exact ⟨⟨_, _, rfl, rfl, rfl⟩, hb1⟩
  | some s =>
    cases h2 : hd c d with
    | none =>
      have k1 : (hd a b).isSome = true := by rw [h1]; rfl
      have k2 : (hd c d).isSome = false := by rw [h2]; rfl
      go_enter Try.func26, Try.ntmps26
      go_wp2_with (go_at_call 22; refine (hand_Right _ _ _ (by assumption) (by assumption) _ (by assumption)).mono ?_; rintro e w1 ⟨rfl, hb1⟩; obtain ⟨hc1, hf1⟩ := bcell hb1)
      go_ret
      rename_i wa hba hca hfa
      exact ⟨⟨_, _, rfl, rfl, rfl⟩, below_next hba hb1⟩
    | some t =>
      have k1 : (hd a b).isSome = true := by rw [h1]; rfl
      have k2 : (hd c d).isSome = true := by rw [h2]; rfl
      obtain ⟨i, j, hi, hj, na, nb, rfl⟩ := hd_some h1
      obtain ⟨k, l, hk, hl, nc, nd, rfl⟩ := hd_some h2
      obtain ⟨z1, a1, m1⟩ := num_add hi hk na nc
      obtain ⟨z2, a2, m2⟩ := num_add hj hl nb nd
      have s1 := sum_add a1 a2 Try.prog 45
      go_enter Try.func26, Try.ntmps26
      go_wp2_with (first | (go_at_call 22; refine (hand_Right _ _ _ (by assumption) (by assumption) _ (by assumption)).mono ?_; rintro e w1 ⟨rfl, hb1⟩; obtain ⟨hc1, hf1⟩ := bcell hb1) | (go_at_call 44; refine (hand_carried _ _ _ _ _ (by omega) (by omega) m1 m2).mono ?_; rintro e w2 ⟨⟨r1, r2, rfl, q1, q2⟩, hb2⟩))
      go_ret
      rename_i wa hba hca hfa
      refine ⟨⟨_, _, rfl, ?_⟩, below_next (below_next hba hb1) hb2⟩
      show hd _ _ = some _
      rw [hd_of (Nat.mod_lt _ (by decide)) (Nat.mod_lt _ (by decide)) q1 q2]
      congr 1; omega
theorem Sum_some {s t r1 r2 : Nat} (h : Sum (some s) (some t) r1 r2) : hd r1 r2 = some ((s + t) % 4096) := h
/-- What hands turned are. -/
def Turned (o : Option Nat) (n : Int) (r1 r2 : Nat) : Prop := match o with
  | some s => hd r1 r2 = some (((s : Int) + n) % 4096).toNat
  | none => r1 = 0 ∧ r2 = 0
theorem hand_Turn (w : World) (a b : Nat) (ha : a < 2 ^ 64) (hb : b < 2 ^ 64) (n : Int) (hn : -9223372036854775808 ≤ n ∧ n ≤ 9223372036854775807) : Calls Try.prog 28 #[.complex .f64 a b, .int .i64 n] w fun e w' => (∃ r1 r2, e = .returned (.complex .f64 r1 r2) ∧ Turned (hd a b) n r1 r2) ∧ Below w.heap.size w w' := by
  obtain ⟨u, hu, hu2⟩ : ∃ u : Nat, n % 4096 = u ∧ u < 4096 := ⟨(n % 4096).toNat, by omega, by omega⟩
  have e1 : IntKind.wrap .i64 (Int.tmod n 4096) = Int.tmod n 4096 := IntWalk.i64_in _ (by have := Int.tmod_lt_of_pos n (show (0:Int) < 4096 by decide); have := Int.lt_tmod_of_pos n (show (0:Int) < 4096 by decide); omega)
  have e2 : IntKind.wrap .i64 (Int.tmod n 4096 + 4096) = Int.tmod n 4096 + 4096 := IntWalk.i64_in _ (by have := Int.tmod_lt_of_pos n (show (0:Int) < 4096 by decide); have := Int.lt_tmod_of_pos n (show (0:Int) < 4096 by decide); omega)
  have e3 : IntKind.wrap .i64 (Int.tmod (Int.tmod n 4096 + 4096) 4096) = (u : Int) := by
    have h1 := Int.tmod_lt_of_pos n (show (0:Int) < 4096 by decide)
    have h2 := Int.lt_tmod_of_pos n (show (0:Int) < 4096 by decide)
    have h3 : Int.tmod n 4096 + 4096 * Int.tdiv n 4096 = n := Int.tmod_add_mul_tdiv n 4096
    rw [Int.tmod_eq_emod_of_nonneg (by omega), ← hu]
    exact (IntWalk.i64_in _ (by omega)).trans (by omega)
  have e5 : IntKind.wrap .u64 (Int.tmod (Int.tmod n 4096 + 4096) 4096) = (u : Int) := by
    have h1 := Int.tmod_lt_of_pos n (show (0:Int) < 4096 by decide)
    have h2 := Int.lt_tmod_of_pos n (show (0:Int) < 4096 by decide)
    have h3 : Int.tmod n 4096 + 4096 * Int.tdiv n 4096 = n := Int.tmod_add_mul_tdiv n 4096
    rw [Int.tmod_eq_emod_of_nonneg (by omega), ← hu]
    exact (IntWalk.u64_in _ (by omega)).trans (by omega)
  clear e3
  go_enter Try.func28, Try.ntmps28
  go_wp2_with (first | (go_at_call 24; (try rw [e5]); refine (hand_Of _ u (by omega)).mono ?_; rintro e w1 ⟨⟨p1, p2, rfl, hp⟩, hb1⟩; obtain ⟨hc1, hf1⟩ := bcell hb1) | (go_at_call 26; refine (hand_Add _ _ _ _ _ ha hb (hd_lt hp).2.1 (hd_lt hp).2.2).mono ?_; rintro e w2 ⟨⟨r1, r2, rfl, q1⟩, hb2⟩))
  go_ret
  refine ⟨⟨_, _, rfl, ?_⟩, below_next hb1 hb2⟩
  rw [hp] at q1
  cases h1 : hd a b with
  | none => rw [h1] at q1; exact q1
  | some s =>
    rw [h1] at q1
    have q2 := Sum_some q1
    show hd _ _ = some _
    rw [q2]
    congr 1; omega
/-- The way from hands to others. -/
def way (o1 o2 : Option Nat) : Int := match o1, o2 with
  | some s, some t => ((t : Int) - s) % 4096
  | _, _ => -1
theorem conv_at {z : Nat} {n : Int} (h : floatToIntVal .f64 z .i64 = some n) (w : World) : (convert 43 3 (.float .f64 z)).run Try.prog w = .ok (.int .i64 n) w := run_convert_float_int w _ _ _ _ _ _ (by kernel_rfl) (by kernel_rfl) h
theorem hand_Way (w : World) (a b c d : Nat) (ha : a < 2 ^ 64) (hb : b < 2 ^ 64) (hc : c < 2 ^ 64) (hd' : d < 2 ^ 64) (r : Int) (hr : way (hd a b) (hd c d) = r) : Calls Try.prog 30 #[.complex .f64 a b, .complex .f64 c d] w fun e w' => e = .returned (.int .i64 r) ∧ Below w.heap.size w w' := by
  cases h1 : hd a b with
  | none =>
    rw [h1] at hr
    subst hr
    go_enter Try.func30, Try.ntmps30
    go_wp2_with (go_at_call 22; refine (hand_Right _ _ _ ha hb false (by rw [h1]; rfl)).mono ?_; rintro e w1 ⟨rfl, hb1⟩; obtain ⟨hc1, hf1⟩ := bcell hb1)
    go_ret
    exact ⟨rfl, hb1⟩
  | some s =>
    cases h2 : hd c d with
    | none =>
      have k1 : (hd a b).isSome = true := by rw [h1]; rfl
      have k2 : (hd c d).isSome = false := by rw [h2]; rfl
      rw [h1, h2] at hr
      subst hr
      go_enter Try.func30, Try.ntmps30
      go_wp2_with (go_at_call 22; refine (hand_Right _ _ _ (by assumption) (by assumption) _ (by assumption)).mono ?_; rintro e w1 ⟨rfl, hb1⟩; obtain ⟨hc1, hf1⟩ := bcell hb1)
      go_ret
      rename_i wa hba hca hfa
      exact ⟨rfl, below_next hba hb1⟩
    | some t =>
      have k1 : (hd a b).isSome = true := by rw [h1]; rfl
      have k2 : (hd c d).isSome = true := by rw [h2]; rfl
      rw [h1, h2] at hr
      obtain ⟨i, j, hi, hj, na, nb, rfl⟩ := hd_some h1
      obtain ⟨k, l, hk, hl, nc, nd, rfl⟩ := hd_some h2
      obtain ⟨z1, a1, m1⟩ := num_sub hk hi nc na
      obtain ⟨z2, a2, m2⟩ := num_sub hl hj nd nb
      have s1 := sum_sub a1 a2 Try.prog 45
      have v1 := conv_at m1
      have v2 := conv_at m2
      have e1 : IntKind.wrap .i64 (((k : Int) - i) * 64) = ((k : Int) - i) * 64 := IntWalk.i64_in _ (by omega)
      have e2 : IntKind.wrap .i64 (((k : Int) - i) * 64 + ((l : Int) - j)) = ((k : Int) - i) * 64 + ((l : Int) - j) := IntWalk.i64_in _ (by omega)
      have e3 : IntKind.wrap .i64 (((k : Int) - i) * 64 + ((l : Int) - j) + 4096) = ((k : Int) - i) * 64 + ((l : Int) - j) + 4096 := IntWalk.i64_in _ (by omega)
      have e4 : IntKind.wrap .i64 (Int.tmod (((k : Int) - i) * 64 + ((l : Int) - j) + 4096) 4096) = r := by
        rw [Int.tmod_eq_emod_of_nonneg (by omega), ← hr]
        refine (IntWalk.i64_in _ (by omega)).trans ?_
        show _ = (((64 * k + l : Nat) : Int) - ((64 * i + j : Nat) : Int)) % 4096
        omega
      have E : (((k : Int) - i) * 64 + ((l : Int) - j) + 4096) % 4096 = r := by
        rw [← hr]
        show _ = (((64 * k + l : Nat) : Int) - ((64 * i + j : Nat) : Int)) % 4096
        omega
      have E' := Lib.hid E
      clear E h1 h2 hr a1 a2 m1 m2
      go_enter Try.func30, Try.ntmps30
      go_wp2_with (go_at_call 22; refine (hand_Right _ _ _ (by assumption) (by assumption) _ (by assumption)).mono ?_; rintro e w1 ⟨rfl, hb1⟩; obtain ⟨hc1, hf1⟩ := bcell hb1)
      go_ret
      rename_i wa hba hca hfa
      exact ⟨congrArg (fun z => Ending.returned (.int .i64 z)) E'.out, below_next hba hb1⟩
/-- The next tick at which hands stand so. -/
def step4096 (r : Nat) : Nat := if r = 0 then 4096 else r
def nextOf (now : Nat) (o : Option Nat) : Nat × Int := match o with
  | none => (0, 1)
  | some t => if now + step4096 (((t : Int) - (now : Int)) % 4096).toNat ≤ 18446744073709551615 then (now + step4096 (((t : Int) - (now : Int)) % 4096).toNat, 0) else (0, 10)
theorem hand_Next (w : World) (now a b : Nat) (hnow : now < 2 ^ 64) (ha : a < 2 ^ 64) (hb : b < 2 ^ 64) (r : Nat × Int) (hr : nextOf now (hd a b) = r) : Calls Try.prog 20 #[.int .u64 now, .complex .f64 a b] w fun e w' => e = .returned (.tuple #[.int .u64 r.1, .int .i64 r.2]) ∧ Below w.heap.size w w' := by
  cases h1 : hd a b with
  | none =>
    rw [h1] at hr
    subst hr
    have E := Lib.hid h1
    clear h1
    go_enter Try.func20, Try.ntmps20
    go_wp2_with (first | (go_at_call 24; refine (hand_Of _ now (by omega)).mono ?_; rintro e w1 ⟨⟨p1, p2, rfl, hp⟩, hb1⟩; obtain ⟨hc1, hf1⟩ := bcell hb1) | (go_at_call 30; refine (hand_Way _ _ _ _ _ (hd_lt hp).2.1 (hd_lt hp).2.2 ha hb (-1) (by rw [hp, E.out]; rfl)).mono ?_; rintro e w2 ⟨rfl, hb2⟩))
    go_ret2
    exact ⟨rfl, below_next hb1 hb2⟩
  | some t =>
    have ht := (hd_lt h1).1
    rw [h1] at hr
    obtain ⟨d, hd1, hd2⟩ : ∃ d : Nat, ((t : Int) - (now : Int)) % 4096 = d ∧ d < 4096 := ⟨(((t : Int) - (now : Int)) % 4096).toNat, by omega, by omega⟩
    have hway : way (some (now % 4096)) (some t) = (d : Int) := by
      show ((t : Int) - ((now % 4096 : Nat) : Int)) % 4096 = _
      omega
    unfold nextOf at hr
    simp only [hd1, Int.toNat_natCast] at hr
    have E := Lib.hid h1
    have E2 := Lib.hid hway
    clear h1 hway hd1
    by_cases hd0 : d = 0
    · subst hd0
      unfold step4096 at hr
      rw [if_pos rfl] at hr
      by_cases hov : now + 4096 ≤ 18446744073709551615
      · rw [if_pos hov] at hr
        subst hr
        have e1 : IntKind.wrap .u64 ((now : Int) + 4096) = (now + 4096 : Nat) := (IntWalk.u64_in _ (by omega)).trans (by omega)
        have c1 : ((18446744073709547519 : Int) < (now : Int)) = False := by simp; omega
        go_enter Try.func20, Try.ntmps20
        go_wp2_with (first | (go_at_call 24; refine (hand_Of _ now (by omega)).mono ?_; rintro e w1 ⟨⟨p1, p2, rfl, hp⟩, hb1⟩; obtain ⟨hc1, hf1⟩ := bcell hb1) | (go_at_call 30; refine (hand_Way _ _ _ _ _ (hd_lt hp).2.1 (hd_lt hp).2.2 ha hb 0 (by rw [hp, E.out]; exact E2.out)).mono ?_; rintro e w2 ⟨rfl, hb2⟩))
        go_ret2
        exact ⟨rfl, below_next hb1 hb2⟩
      · rw [if_neg hov] at hr
        subst hr
        have c1 : ((18446744073709547519 : Int) < (now : Int)) = True := by simp; omega
        go_enter Try.func20, Try.ntmps20
        go_wp2_with (first | (go_at_call 24; refine (hand_Of _ now (by omega)).mono ?_; rintro e w1 ⟨⟨p1, p2, rfl, hp⟩, hb1⟩; obtain ⟨hc1, hf1⟩ := bcell hb1) | (go_at_call 30; refine (hand_Way _ _ _ _ _ (hd_lt hp).2.1 (hd_lt hp).2.2 ha hb 0 (by rw [hp, E.out]; exact E2.out)).mono ?_; rintro e w2 ⟨rfl, hb2⟩))
        go_ret2
        exact ⟨rfl, below_next hb1 hb2⟩
    · unfold step4096 at hr
      rw [if_neg hd0] at hr
      have e0 : IntKind.wrap .u64 (d : Int) = (d : Int) := IntWalk.u64_in _ (by omega)
      have e2 : IntKind.wrap .u64 (18446744073709551615 - (d : Int)) = 18446744073709551615 - (d : Int) := IntWalk.u64_in _ (by omega)
      by_cases hov : now + d ≤ 18446744073709551615
      · rw [if_pos hov] at hr
        subst hr
        have e1 : IntKind.wrap .u64 ((now : Int) + (d : Int)) = (now : Int) + (d : Int) := (IntWalk.u64_in _ (by omega))
        have c1 : ((18446744073709551615 : Int) - (d : Int) < (now : Int)) = False := by simp; omega
        go_enter Try.func20, Try.ntmps20
        go_wp2_with (first | (go_at_call 24; refine (hand_Of _ now (by omega)).mono ?_; rintro e w1 ⟨⟨p1, p2, rfl, hp⟩, hb1⟩; obtain ⟨hc1, hf1⟩ := bcell hb1) | (go_at_call 30; refine (hand_Way _ _ _ _ _ (hd_lt hp).2.1 (hd_lt hp).2.2 ha hb (d : Int) (by rw [hp, E.out]; exact E2.out)).mono ?_; rintro e w2 ⟨rfl, hb2⟩))
        go_ret2
        exact ⟨rfl, below_next hb1 hb2⟩
      · rw [if_neg hov] at hr
        subst hr
        have c1 : ((18446744073709551615 : Int) - (d : Int) < (now : Int)) = True := by simp; omega
        go_enter Try.func20, Try.ntmps20
        go_wp2_with (first | (go_at_call 24; refine (hand_Of _ now (by omega)).mono ?_; rintro e w1 ⟨⟨p1, p2, rfl, hp⟩, hb1⟩; obtain ⟨hc1, hf1⟩ := bcell hb1) | (go_at_call 30; refine (hand_Way _ _ _ _ _ (hd_lt hp).2.1 (hd_lt hp).2.2 ha hb (d : Int) (by rw [hp, E.out]; exact E2.out)).mono ?_; rintro e w2 ⟨rfl, hb2⟩))
        go_ret2
        exact ⟨rfl, below_next hb1 hb2⟩
end Go.Proofs.Ytkpabmhijpnchaa

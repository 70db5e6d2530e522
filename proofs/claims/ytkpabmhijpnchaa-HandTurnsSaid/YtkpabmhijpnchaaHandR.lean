/- The hands' reference: Tick, Hands, Of, Add, Turn, Way, Next. -/
import Derived.Test.YtkpabmhijpnchaaHandB
set_option linter.unusedVariables false
set_option linter.unusedSimpArgs false
namespace Go.Proofs.Ytkpabmhijpnchaa
open Go.RowKit
def tickOf (o : Option Nat) : Int := match o with | some s => (s : Int) | none => -1
theorem ord_hit {x k : Nat} (hx : x < 2 ^ 64) (hk : k < 64) (h : num x = some k) : FloatKind.f64.format.order x (floatOfInt .f64 (k : Int)) = some .eq := by
  have := num_cmp hx hk
  rw [h] at this
  have t : Ieee.double.order x (fl (k : Int)) = some .eq := by simpa using this
  exact t
theorem ord_miss {x k : Nat} (hx : x < 2 ^ 64) (hk : k < 64) (h : num x ≠ some k) : (FloatKind.f64.format.order x (floatOfInt .f64 (k : Int)) == some .eq) = false := by
  have := num_cmp hx hk
  have h2 : (num x == some k) = false := by simpa using h
  rw [h2] at this
  exact this
theorem num_none {x : Nat} (h : ∀ j, j < 64 → num x ≠ some j) : num x = none := by
  cases hn : num x with
  | none => rfl
  | some k => exact absurd hn (h k (num_some hn).1)
set_option maxRecDepth 100000 in
theorem ref_Tick (w : World) (x y : Nat) (hx : x < 2 ^ 64) (hy : y < 2 ^ 64) (r : Int) (hr : tickOf (hd x y) = r) : Calls Try.prog 23 #[.complex .f64 x y] w fun e w' => e = .returned (.int .i64 r) ∧ Below w.heap.size w w' := by
  have HR := Sealed.mk hr
  clear hr
  go_enter Try.func23, Try.ntmps23
  go_wp2
  go_loopw [3] (fun i wr => ∃ k : Nat, k ≤ 64 ∧ i = .int .i64 k ∧ Sealed (∀ j, j < k → num x = some j → num y = none) ∧ Below w.heap.size w wr) (fun i _ => 64 - (intOf i).toNat)
  case atStart => exact ⟨0, Nat.zero_le _, rfl, ⟨fun j h => absurd h (Nat.not_lt_zero _)⟩, Below.refl _ _⟩
  case round =>
    obtain ⟨k, hk, rfl, hall, hbr⟩ := hrel
    by_cases hlt : k < 64
    · have g1 : ((k : Int) < 64) = True := by simp; omega
      by_cases hn : num x = some k
      · have o1 := ord_hit hx hlt hn
        have HN := Sealed.mk hn
        clear hn
        go_wp2
        go_loopw [4] (fun i wr => ∃ l : Nat, l ≤ 64 ∧ i = .int .i64 l ∧ Sealed (∀ j, j < l → num y ≠ some j) ∧ Below w.heap.size w wr) (fun i _ => 64 - (intOf i).toNat)
        case atStart => exact ⟨0, Nat.zero_le _, rfl, ⟨fun j h => absurd h (Nat.not_lt_zero _)⟩, hbr⟩
        case round =>
          obtain ⟨l, hl, rfl, hall2, hbr2⟩ := hrel
          by_cases hlt2 : l < 64
          · have g2 : ((l : Int) < 64) = True := by simp; omega
            by_cases hn2 : num y = some l
            · have o2 := ord_hit hy hlt2 hn2
              have e1 : IntKind.wrap .i64 (64 * (k : Int)) = 64 * (k : Int) := IntWalk.i64_in _ (by omega)
              have e2 : IntKind.wrap .i64 (64 * (k : Int) + (l : Int)) = 64 * (k : Int) + (l : Int) := IntWalk.i64_in _ (by omega)
              have HN2 := Sealed.mk hn2
              clear hn2
              go_wp2
              go_ret
              refine ⟨?_, hbr2⟩
              rw [← HR.out]
              unfold hd
              rw [HN.out, HN2.out]
              show Ending.returned (.int .i64 (64 * (k : Int) + (l : Int))) = Ending.returned (.int .i64 ((64 * k + l : Nat) : Int))
              congr 2
            · have o2 := ord_miss hy hlt2 hn2
              have HN2 := Sealed.mk hn2
              clear hn2
              go_wp2
              go_roundw
              case rel => exact ⟨l + 1, by omega, by go_num, ⟨fun j h => by
                rcases Nat.lt_or_eq_of_le (Nat.le_of_lt_succ h) with h' | h'
                · exact hall2.out j h'
                · rw [h']; exact HN2.out⟩, hbr2⟩
              case measure => simp [intOf]; omega
          · have hl64 : l = 64 := by omega
            subst hl64
            go_wp2
            go_roundw
            case rel => exact ⟨k + 1, by omega, by go_num, ⟨fun j _ _ => num_none hall2.out⟩, hbr2⟩
            case measure => simp [intOf]; omega
      · have o1 := ord_miss hx hlt hn
        have o2 : (FloatKind.f64.format.order x (floatOfInt .f64 (k : Int)) != some .eq) = true := by rw [bne, o1]; rfl
        have HN := Sealed.mk hn
        clear hn
        go_wp2
        go_roundw
        case rel => exact ⟨k + 1, by omega, by go_num, ⟨fun j h hj => by
          rcases Nat.lt_or_eq_of_le (Nat.le_of_lt_succ h) with h' | h'
          · exact hall.out j h' hj
          · exact absurd (h' ▸ hj) HN.out⟩, hbr⟩
        case measure => simp [intOf]; omega
    · have hk64 : k = 64 := by omega
      subst hk64
      go_wp2
      go_ret
      refine ⟨?_, hbr⟩
      rw [← HR.out]
      have : hd x y = none := by
        unfold hd
        cases h1 : num x with
        | none => rfl
        | some i => rw [hall.out i (num_some h1).1 h1]; rfl
      rw [this]
      rfl
theorem ref_Hands (w : World) (n : Nat) (hn : n < 4096) : Calls Try.prog 43 #[.int .i64 n] w fun e w' => (∃ r1 r2, e = .returned (.complex .f64 r1 r2) ∧ hd r1 r2 = some n) ∧ Below w.heap.size w w' := by
  have e0 : floatOfInt .f64 ((n : Int) / 64) = fl (n / 64 : Nat) := by
    have : (n : Int) / 64 = ((n / 64 : Nat) : Int) := by omega
    rw [this]; rfl
  have e5 : floatOfInt .f64 ((n : Int) % 64) = fl (n % 64 : Nat) := by
    have : (n : Int) % 64 = ((n % 64 : Nat) : Int) := by omega
    rw [this]; rfl
  have e1 : IntKind.wrap .i64 (Int.tdiv (n : Int) 64) = (n : Int) / 64 := by rw [Int.tdiv_eq_ediv_of_nonneg (by omega)]; exact IntWalk.i64_in _ (by omega)
  have e2 : IntKind.wrap .i64 (Int.tmod (n : Int) 64) = (n : Int) % 64 := by rw [Int.tmod_eq_emod_of_nonneg (by omega)]; exact IntWalk.i64_in _ (by omega)
  have e3 : Int.tmod (n : Int) 64 = (n : Int) % 64 := Int.tmod_eq_emod_of_nonneg (by omega)
  have e4 : Int.tdiv (n : Int) 64 = (n : Int) / 64 := Int.tdiv_eq_ediv_of_nonneg (by omega)
  have E4 := Lib.hid e0
  have E5 := Lib.hid e5
  clear e0 e5
  go_enter Try.func43, Try.ntmps43
  go_wp2
  go_ret
  exact ⟨⟨_, _, congrArg Ending.returned (congr (congrArg (Value.complex .f64) E4.out) E5.out), hd_fl hn⟩, Below.refl _ _⟩
theorem ref_Of (w : World) (t : Nat) (ht : t < 2 ^ 64) : Calls Try.prog 25 #[.int .u64 t] w fun e w' => (∃ r1 r2, e = .returned (.complex .f64 r1 r2) ∧ hd r1 r2 = some (t % 4096)) ∧ Below w.heap.size w w' := by
  have e1 : IntKind.wrap .i64 ((t : Int) % 4096) = (t % 4096 : Nat) := (IntWalk.i64_in _ (by omega)).trans (by omega)
  have e2 : ((t : Int) % 4096) = (t % 4096 : Nat) := by omega
  have E2 := Lib.hid e2
  clear e2
  go_enter Try.func25, Try.ntmps25
  go_wp2_with (go_at_call 43; (try rw [E2.out]); refine (ref_Hands _ (t % 4096) (by omega)).mono ?_; rintro e w1 ⟨⟨p1, p2, rfl, hp⟩, hb1⟩)
  go_ret
  exact ⟨⟨_, _, rfl, hp⟩, hb1⟩
theorem ref_Add (w : World) (a b c d : Nat) (ha : a < 2 ^ 64) (hb : b < 2 ^ 64) (hc : c < 2 ^ 64) (hd' : d < 2 ^ 64) : Calls Try.prog 27 #[.complex .f64 a b, .complex .f64 c d] w fun e w' => (∃ r1 r2, e = .returned (.complex .f64 r1 r2) ∧ Sum (hd a b) (hd c d) r1 r2) ∧ Below w.heap.size w w' := by
  obtain ⟨x, hx⟩ : ∃ x, tickOf (hd a b) = x := ⟨_, rfl⟩
  obtain ⟨y, hy⟩ : ∃ y, tickOf (hd c d) = y := ⟨_, rfl⟩
  cases h1 : hd a b with
  | none =>
    have hx1 : x = -1 := by rw [← hx, h1]; rfl
    have g1 : (x < 0) = True := by simp [hx1]
    have E := Lib.hid h1
    have E3 := Lib.hid hx1
    clear h1 hx1
    go_enter Try.func27, Try.ntmps27
    go_wp2_with (go_at_call 23; refine (ref_Tick _ _ _ (by assumption) (by assumption) _ (by assumption)).mono ?_; rintro e w1 ⟨rfl, hb1⟩; obtain ⟨hc1, hf1⟩ := bcell hb1)
    go_ret
    exact ⟨⟨_, _, rfl, rfl, rfl⟩, below_next (by assumption) hb1⟩
  | some s =>
    have hs := (hd_lt h1).1
    have hx1 : x = (s : Int) := by rw [← hx, h1]; rfl
    have g1 : (x < 0) = False := by simp [hx1]
    have E := Lib.hid h1
    clear h1
    cases h2 : hd c d with
    | none =>
      have hy1 : y = -1 := by rw [← hy, h2]; rfl
      have g2 : (y < 0) = True := by simp [hy1]
      have E2 := Lib.hid h2
      have E3 := Lib.hid hx1
      have E4 := Lib.hid hy1
      clear h2 hx1 hy1
      go_enter Try.func27, Try.ntmps27
      go_wp2_with (go_at_call 23; refine (ref_Tick _ _ _ (by assumption) (by assumption) _ (by assumption)).mono ?_; rintro e w1 ⟨rfl, hb1⟩; obtain ⟨hc1, hf1⟩ := bcell hb1)
      go_ret
      exact ⟨⟨_, _, rfl, rfl, rfl⟩, below_next (by assumption) hb1⟩
    | some t =>
      have ht := (hd_lt h2).1
      have hy1 : y = (t : Int) := by rw [← hy, h2]; rfl
      have g2 : (y < 0) = False := by simp [hy1]
      have e2 : IntKind.wrap .i64 (x + y) = x + y := IntWalk.i64_in _ (by omega)
      have e3 : Int.tmod (x + y) 4096 = (((s + t) % 4096 : Nat) : Int) := by rw [Int.tmod_eq_emod_of_nonneg (by omega), hx1, hy1]; omega
      have e4 : IntKind.wrap .i64 (((s + t) % 4096 : Nat) : Int) = (((s + t) % 4096 : Nat) : Int) := IntWalk.i64_in _ (by omega)
      have E2 := Lib.hid h2
      have E3 := Lib.hid hx1
      have E4 := Lib.hid hy1
      have E5 := Lib.hid e3
      have e6 : (x + y) % 4096 = (((s + t) % 4096 : Nat) : Int) := by rw [hx1, hy1]; omega
      have E6 := Lib.hid e6
      clear h2 hx1 hy1 e3 e6
      go_enter Try.func27, Try.ntmps27
      go_wp2_with (first | (go_at_call 23; refine (ref_Tick _ _ _ (by assumption) (by assumption) _ (by assumption)).mono ?_; rintro e w1 ⟨rfl, hb1⟩; obtain ⟨hc1, hf1⟩ := bcell hb1) | (go_at_call 43; (try rw [E5.out]); (try rw [E6.out]); (try rw [e4]); refine (ref_Hands _ ((s + t) % 4096) (by omega)).mono ?_; rintro e w2 ⟨⟨p1, p2, rfl, hp⟩, hb2⟩))
      go_ret
      exact ⟨⟨_, _, rfl, hp⟩, below_next (below_next (by assumption) hb1) hb2⟩
theorem ref_Turn (w : World) (a b : Nat) (ha : a < 2 ^ 64) (hb : b < 2 ^ 64) (n : Int) (hn : -9223372036854775808 ≤ n ∧ n ≤ 9223372036854775807) : Calls Try.prog 29 #[.complex .f64 a b, .int .i64 n] w fun e w' => (∃ r1 r2, e = .returned (.complex .f64 r1 r2) ∧ Turned (hd a b) n r1 r2) ∧ Below w.heap.size w w' := by
  obtain ⟨x, hx⟩ : ∃ x, tickOf (hd a b) = x := ⟨_, rfl⟩
  cases h1 : hd a b with
  | none =>
    have hx1 : x = -1 := by rw [← hx, h1]; rfl
    have g1 : (x < 0) = True := by simp [hx1]
    have E := Lib.hid h1
    have E3 := Lib.hid hx1
    clear h1 hx1
    go_enter Try.func29, Try.ntmps29
    go_wp2_with (go_at_call 23; refine (ref_Tick _ _ _ (by assumption) (by assumption) _ (by assumption)).mono ?_; rintro e w1 ⟨rfl, hb1⟩; obtain ⟨hc1, hf1⟩ := bcell hb1)
    go_ret
    exact ⟨⟨_, _, rfl, rfl, rfl⟩, hb1⟩
  | some s =>
    have hs := (hd_lt h1).1
    have hx1 : x = (s : Int) := by rw [← hx, h1]; rfl
    have g1 : (x < 0) = False := by simp [hx1]
    have m1 := Int.tmod_lt_of_pos n (show (0:Int) < 4096 by decide)
    have m2 := Int.lt_tmod_of_pos n (show (0:Int) < 4096 by decide)
    have m3 : Int.tmod n 4096 + 4096 * Int.tdiv n 4096 = n := Int.tmod_add_mul_tdiv n 4096
    obtain ⟨u, hu⟩ : ∃ u : Nat, ((s : Int) + n) % 4096 = u := ⟨(((s : Int) + n) % 4096).toNat, by omega⟩
    have e1 : IntKind.wrap .i64 (Int.tmod n 4096) = Int.tmod n 4096 := IntWalk.i64_in _ (by omega)
    have e2 : IntKind.wrap .i64 (x + Int.tmod n 4096) = x + Int.tmod n 4096 := IntWalk.i64_in _ (by omega)
    have e3 : IntKind.wrap .i64 (x + Int.tmod n 4096 + 4096) = x + Int.tmod n 4096 + 4096 := IntWalk.i64_in _ (by omega)
    have e4 : Int.tmod (x + Int.tmod n 4096 + 4096) 4096 = (u : Int) := by rw [Int.tmod_eq_emod_of_nonneg (by omega), hx1]; omega
    have e5 : (x + Int.tmod n 4096 + 4096) % 4096 = (u : Int) := by rw [hx1]; omega
    have e6 : IntKind.wrap .i64 (u : Int) = (u : Int) := IntWalk.i64_in _ (by omega)
    have hu' : u < 4096 := by omega
    have E := Lib.hid h1
    have E3 := Lib.hid hx1
    have E4 := Lib.hid e4
    have E5 := Lib.hid e5
    have EU := Lib.hid hu
    clear h1 hx1 e4 e5 m1 m2 m3 hu
    go_enter Try.func29, Try.ntmps29
    go_wp2_with (first | (go_at_call 23; refine (ref_Tick _ _ _ (by assumption) (by assumption) _ (by assumption)).mono ?_; rintro e w1 ⟨rfl, hb1⟩; obtain ⟨hc1, hf1⟩ := bcell hb1) | (go_at_call 43; (try rw [E4.out]); (try rw [E5.out]); (try rw [e6]); refine (ref_Hands _ u hu').mono ?_; rintro e w2 ⟨⟨p1, p2, rfl, hp⟩, hb2⟩))
    go_ret
    refine ⟨⟨_, _, rfl, ?_⟩, below_next hb1 hb2⟩
    show hd _ _ = some _
    rw [EU.out]
    exact hp
set_option maxRecDepth 100000 in
theorem ref_Way (w : World) (a b c d : Nat) (ha : a < 2 ^ 64) (hb : b < 2 ^ 64) (hc : c < 2 ^ 64) (hd' : d < 2 ^ 64) (r : Int) (hr : way (hd a b) (hd c d) = r) : Calls Try.prog 31 #[.complex .f64 a b, .complex .f64 c d] w fun e w' => e = .returned (.int .i64 r) ∧ Below w.heap.size w w' := by
  obtain ⟨x, hx⟩ : ∃ x, tickOf (hd a b) = x := ⟨_, rfl⟩
  obtain ⟨y, hy⟩ : ∃ y, tickOf (hd c d) = y := ⟨_, rfl⟩
  cases h1 : hd a b with
  | none =>
    have hx1 : x = -1 := by rw [← hx, h1]; rfl
    have g1 : (x < 0) = True := by simp [hx1]
    rw [h1] at hr
    subst hr
    have E := Lib.hid h1
    have E3 := Lib.hid hx1
    clear h1 hx1
    go_enter Try.func31, Try.ntmps31
    go_wp2_with (go_at_call 23; refine (ref_Tick _ _ _ (by assumption) (by assumption) _ (by assumption)).mono ?_; rintro e w1 ⟨rfl, hb1⟩; obtain ⟨hc1, hf1⟩ := bcell hb1)
    go_ret
    exact ⟨rfl, below_next (by assumption) hb1⟩
  | some s =>
    have hs := (hd_lt h1).1
    have hx1 : x = (s : Int) := by rw [← hx, h1]; rfl
    have g1 : (x < 0) = False := by simp [hx1]
    cases h2 : hd c d with
    | none =>
      have hy1 : y = -1 := by rw [← hy, h2]; rfl
      have g2 : (y < 0) = True := by simp [hy1]
      rw [h1, h2] at hr
      subst hr
      have E := Lib.hid h1
      have E2 := Lib.hid h2
      have E3 := Lib.hid hx1
      have E4 := Lib.hid hy1
      clear h1 h2 hx1 hy1
      go_enter Try.func31, Try.ntmps31
      go_wp2_with (go_at_call 23; refine (ref_Tick _ _ _ (by assumption) (by assumption) _ (by assumption)).mono ?_; rintro e w1 ⟨rfl, hb1⟩; obtain ⟨hc1, hf1⟩ := bcell hb1)
      go_ret
      exact ⟨rfl, below_next (by assumption) hb1⟩
    | some t =>
      have ht := (hd_lt h2).1
      have hy1 : y = (t : Int) := by rw [← hy, h2]; rfl
      have g2 : (y < 0) = False := by simp [hy1]
      rw [h1, h2] at hr
      have hr2 : ((t : Int) - s) % 4096 = r := hr
      have E := Lib.hid h1
      have E2 := Lib.hid h2
      have E3 := Lib.hid hx1
      have E4 := Lib.hid hy1
      have ER := Lib.hid hr2
      clear h1 h2 hx1 hy1 hr hr2
      go_enter Try.func31, Try.ntmps31
      go_wp2_with (go_at_call 23; refine (ref_Tick _ _ _ (by assumption) (by assumption) _ (by assumption)).mono ?_; rintro e w1 ⟨rfl, hb1⟩; obtain ⟨hc1, hf1⟩ := bcell hb1)
      have hbb := below_next (by assumption) hb1
      go_loopw [7] (fun i wr => ∃ k : Nat, k < 4096 ∧ i = .int .i64 k ∧ Sealed (∀ j : Nat, j < k → (x + j) % 4096 ≠ y) ∧ Below w.heap.size w wr) (fun i _ => 4096 - (intOf i).toNat)
      case atStart => exact ⟨0, by decide, rfl, ⟨fun j h => absurd h (Nat.not_lt_zero _)⟩, hbb⟩
      case round =>
        obtain ⟨k, hk, rfl, hall, hbr⟩ := hrel
        have g3 : ((k : Int) < 4096) = True := by simp; omega
        have e1 : IntKind.wrap .i64 (x + (k : Int)) = x + (k : Int) := IntWalk.i64_in _ (by rw [E3.out]; omega)
        have e2 : Int.tmod (x + (k : Int)) 4096 = (x + (k : Int)) % 4096 := Int.tmod_eq_emod_of_nonneg (by rw [E3.out]; omega)
        by_cases hit : (x + (k : Int)) % 4096 = y
        · have q1 : ((x + (k : Int)) % 4096 == y) = true := by simpa using hit
          have HIT := Sealed.mk hit
          clear hit
          go_wp2
          go_ret
          refine ⟨?_, hbr⟩
          have h3 := HIT.out
          rw [E3.out, E4.out] at h3
          have : r = (k : Int) := by rw [← ER.out]; omega
          rw [this]
          rfl
        · have q1 : ((x + (k : Int)) % 4096 == y) = false := by simpa using hit
          have HIT := Sealed.mk hit
          clear hit
          go_wp2
          go_roundw
          case rel => exact ⟨k + 1, by
            rcases Nat.lt_or_ge (k + 1) 4096 with h4 | h4
            · exact h4
            · exfalso
              have h3 := HIT.out
              obtain ⟨j, hj, hj2⟩ : ∃ j : Nat, j < 4096 ∧ (x + (j : Int)) % 4096 = y := ⟨(((t : Int) - s) % 4096).toNat, by omega, by rw [E3.out, E4.out]; omega⟩
              by_cases hjk : j = k
              · rw [hjk] at hj2; exact h3 hj2
              · exact hall.out j (by omega) hj2, by go_num, ⟨fun j h => by
            rcases Nat.lt_or_eq_of_le (Nat.le_of_lt_succ h) with h' | h'
            · exact hall.out j h'
            · rw [h']; exact HIT.out⟩, hbr⟩
          case measure => simp [intOf]; omega
theorem nextOf_some {now t : Nat} (ht : t < 4096) : ∃ D : Nat, 1 ≤ D ∧ D ≤ 4096 ∧ (∀ j, 1 ≤ j → j ≤ 4096 → ((now + j) % 4096 = t ↔ j = D)) ∧ nextOf now (some t) = if now + D ≤ 18446744073709551615 then (now + D, 0) else (0, 10) := by
  refine ⟨step4096 (((t : Int) - (now : Int)) % 4096).toNat, ?_, ?_, ?_, rfl⟩
  all_goals
    obtain ⟨d, hd⟩ : ∃ d : Nat, ((t : Int) - (now : Int)) % 4096 = d := ⟨(((t : Int) - (now : Int)) % 4096).toNat, by omega⟩
    rw [hd, Int.toNat_natCast]
    unfold step4096
  · split <;> omega
  · split <;> omega
  · intro j h1 h2
    split <;> constructor <;> intro h <;> omega
set_option maxRecDepth 100000 in
theorem ref_Next (w : World) (now a b : Nat) (hnow : now < 2 ^ 64) (ha : a < 2 ^ 64) (hb : b < 2 ^ 64) (r : Nat × Int) (hr : nextOf now (hd a b) = r) : Calls Try.prog 21 #[.int .u64 now, .complex .f64 a b] w fun e w' => e = .returned (.tuple #[.int .u64 r.1, .int .i64 r.2]) ∧ Below w.heap.size w w' := by
  cases h1 : hd a b with
  | none =>
    rw [h1] at hr
    subst hr
    have E := Lib.hid h1
    clear h1
    go_enter Try.func21, Try.ntmps21
    go_wp2_with (go_at_call 23; refine (ref_Tick _ _ _ ha hb (-1) (by rw [E.out]; rfl)).mono ?_; rintro e w1 ⟨rfl, hb1⟩; obtain ⟨hc1, hf1⟩ := bcell hb1)
    go_ret2
    exact ⟨rfl, hb1⟩
  | some t =>
    have ht := (hd_lt h1).1
    rw [h1] at hr
    obtain ⟨D, hD1, hD2, hD3, hD4⟩ := nextOf_some (now := now) ht
    rw [hD4] at hr
    have E := Lib.hid h1
    have ER := Sealed.mk hr
    have ED := Sealed.mk hD3
    have e0 : IntKind.wrap .u64 (t : Int) = (t : Int) := IntWalk.u64_in _ (by omega)
    have g0 : ((t : Int) < 0) = False := by simp
    clear h1 hr hD3 hD4
    go_enter Try.func21, Try.ntmps21
    go_wp2_with (go_at_call 23; refine (ref_Tick _ _ _ ha hb (t : Int) (by rw [E.out]; rfl)).mono ?_; rintro e w1 ⟨rfl, hb1⟩; obtain ⟨hc1, hf1⟩ := bcell hb1)
    go_loopw [0, 7] (fun v i wr => ∃ k m : Nat, k < D ∧ m ≤ 18446744073709551615 ∧ Sealed (m = now + k) ∧ i = .int .i64 k ∧ v = .int .u64 m ∧ Below w.heap.size w wr) (fun _ i _ => 4096 - (intOf i).toNat)
    case atStart => exact ⟨0, now, by omega, by omega, ⟨rfl⟩, rfl, rfl, hb1⟩
    case round =>
      obtain ⟨k, m, hk, hm, hmk, rfl, rfl, hbr⟩ := hrel
      have g3 : ((k : Int) < 4096) = True := by simp; omega
      by_cases hmax : m = 18446744073709551615
      · have q0 : ((m : Int) == 18446744073709551615) = true := by simp; omega
        have HM := Sealed.mk hmax
        clear hmax
        go_wp2
        go_ret2
        refine ⟨?_, hbr⟩
        rw [← ER.out, if_neg (by have := hmk.out; have := HM.out; omega)]
        rfl
      · have q0 : ((m : Int) == 18446744073709551615) = false := by simp; omega
        have e1 : IntKind.wrap .u64 ((m : Int) + 1) = (m : Int) + 1 := IntWalk.u64_in _ (by omega)
        have e2 : Int.tmod ((m : Int) + 1) 4096 = ((m : Int) + 1) % 4096 := Int.tmod_eq_emod_of_nonneg (by omega)
        by_cases hit : k + 1 = D
        · have q1 : (((m : Int) + 1) % 4096 == (t : Int)) = true := by
            have h5 := (ED.out (k + 1) (by omega) (by omega)).2 hit
            have := hmk.out
            rw [beq_iff_eq]; omega
          have HIT := Sealed.mk hit
          clear hit
          go_wp2
          go_ret2
          refine ⟨?_, hbr⟩
          have h6 := HIT.out
          have h7 := hmk.out
          rw [← ER.out, if_pos (by omega)]
          show Ending.returned (.tuple #[.int .u64 ((m : Int) + 1), .int .i64 0]) = Ending.returned (.tuple #[.int .u64 ((now + D : Nat) : Int), .int .i64 0])
          rw [show (m : Int) + 1 = ((now + D : Nat) : Int) from by omega]
        · have q1 : (((m : Int) + 1) % 4096 == (t : Int)) = false := by
            have h5 : ¬ (now + (k + 1)) % 4096 = t := fun h => hit ((ED.out (k + 1) (by omega) (by omega)).1 h)
            have := hmk.out
            rw [beq_eq_false_iff_ne]; omega
          go_wp2
          go_roundw
          case rel => exact ⟨k + 1, m + 1, by omega, by omega, ⟨by have := hmk.out; omega⟩, by go_num, by go_num, hbr⟩
          case measure => simp [intOf]; omega
end Go.Proofs.Ytkpabmhijpnchaa

/- The frame's small functions: first, Right. -/
import Derived.Test.YtkpabmhijpnchaaLib1
import Derived.Laws.BitsAllLaws
set_option linter.unusedVariables false
set_option linter.unusedSimpArgs false
namespace Go.Proofs.Ytkpabmhijpnchaa
open Go.RowKit
def firstOf (bs : List UInt8) : Int := match bs with
  | a :: b :: _ => if a.toNat * 256 + b.toNat = 0 ∨ 2048 < a.toNat * 256 + b.toNat then -1 else if bs.length < 2 + (a.toNat * 256 + b.toNat) then 0 else 2 + ((a.toNat * 256 + b.toNat : Nat) : Int)
  | _ => 0
theorem add_pos' (a : Addr) {n : Nat} (h : 0 < n) : a.add n = ⟨a.block, a.off + n, none⟩ := by unfold Addr.add; rw [if_neg (by omega)]
theorem add_zero' (a : Addr) : a.add 0 = a := by unfold Addr.add; rw [if_pos rfl]
theorem i64_or_nat (a b : Nat) (ha : a < 9223372036854775808) (hb : b < 9223372036854775808) : bits .or .i64 (a : Int) (b : Int) = ((a ||| b : Nat) : Int) := by
  have hx : a ||| b < 2 ^ 63 := Nat.or_lt_two_pow (by omega) (by omega)
  show IntKind.i64.wrap ((BitVec.ofInt 64 (a : Int) ||| BitVec.ofInt 64 (b : Int)).toNat : Int) = _
  rw [BitVec.toNat_or, ofInt_u64 a (by omega), ofInt_u64 b (by omega), IntKind.wrap_i64]
  omega
theorem or_bytes (x y : Nat) (hx : x < 256) (hy : y < 256) : bits .or .i64 ((x : Int) * 256) (y : Int) = ((x * 256 + y : Nat) : Int) := by
  rw [show (x : Int) * 256 = ((x * 256 : Nat) : Int) from by omega, i64_or_nat _ _ (by omega) (by omega)]
  congr 1
  have h := Nat.shiftLeft_add_eq_or_of_lt (i := 8) hy x
  rw [Nat.shiftLeft_eq, show (2 : Nat) ^ 8 = 256 from rfl] at h
  omega
theorem frame_first (w : World) (S : Nat → Prop) (A : Option Addr) (c : Nat) (bs : List UInt8) (h : Rd w S 1 A bs.length (bv bs)) (h2 : bs.length ≤ 140737488355328) (r : Int) (hr : firstOf bs = r) :
    Calls Try.prog 46 #[.slice A bs.length c] w fun e w' => e = .returned (.int .i64 r) ∧ Below w.heap.size w w' := by
  match bs, h, h2, hr with
  | [], h, h2, hr =>
    subst hr
    go_enter Try.func46, Try.ntmps46
    go_wp2
    go_ret
    exact ⟨rfl, Below.refl _ _⟩
  | [x], h, h2, hr =>
    subst hr
    go_enter Try.func46, Try.ntmps46
    go_wp2
    go_ret
    exact ⟨rfl, Below.refl _ _⟩
  | x :: y :: t, h, h2, hr =>
    obtain ⟨ad, rfl, _, hc⟩ := h.2 (by simp)
    have c0 := hc 0 (.int .u8 (x.toNat : Int)) rfl
    have c1 := hc 1 (.int .u8 (y.toNat : Int)) rfl
    have c1' : w.cell? ⟨ad.block, ad.off + 1, none⟩ = some (.int .u8 (y.toNat : Int)) := by rw [← add_pos' ad (show 0 < 1 by omega)]; exact c1
    have c0' : w.cell? ad = some (.int .u8 (x.toNat : Int)) := by rw [← add_zero' ad]; exact c0
    have hx := x.toNat_lt
    have hy := y.toNat_lt
    have o1 := or_bytes x.toNat y.toNat hx hy
    obtain ⟨n, hn⟩ : ∃ n, x.toNat * 256 + y.toNat = n := ⟨_, rfl⟩
    have hn1 : n < 65536 := by omega
    rw [hn] at o1
    have hr : (if x.toNat * 256 + y.toNat = 0 ∨ 2048 < x.toNat * 256 + y.toNat then -1 else if t.length + 1 + 1 < 2 + (x.toNat * 256 + y.toNat) then 0 else 2 + ((x.toNat * 256 + y.toNat : Nat) : Int)) = r := hr
    rw [hn] at hr
    have hlen : (x :: y :: t).length = t.length + 1 + 1 := rfl
    rw [hlen] at h2
    have w1 : IntKind.wrap .i64 (x.toNat : Int) = (x.toNat : Int) := IntWalk.i64_in _ (by omega)
    have w2 : IntKind.wrap .i64 (y.toNat : Int) = (y.toNat : Int) := IntWalk.i64_in _ (by omega)
    have w3 : IntKind.wrap .i64 ((x.toNat : Int) * 256) = (x.toNat : Int) * 256 := IntWalk.i64_in _ (by omega)
    have w4 : IntKind.wrap .i64 (2 + (n : Int)) = 2 + (n : Int) := IntWalk.i64_in _ (by omega)
    have g0 : ((t.length : Int) + 1 + 1 < 2) = False := eq_false (by omega)
    by_cases h0 : n = 0
    · subst h0
      rw [if_pos (.inl rfl)] at hr
      subst hr
      clear hn
      go_enter Try.func46, Try.ntmps46
      go_wp2
      go_quiet (fail)
      go_wp2
      go_ret
      exact ⟨rfl, below_drews (Below.refl _ _) _⟩
    · have z0 : ((n : Int) == 0) = false := by simp; omega
      by_cases h3 : 2048 < n
      · rw [if_pos (.inr h3)] at hr
        subst hr
        have z1 : (2048 < (n : Int)) = True := eq_true (by omega)
        clear hn h0
        go_enter Try.func46, Try.ntmps46
        go_wp2
        go_quiet (fail)
        go_wp2
        go_ret
        exact ⟨rfl, below_drews (Below.refl _ _) _⟩
      · rw [if_neg (by omega)] at hr
        have z1 : (2048 < (n : Int)) = False := eq_false (by omega)
        by_cases h4 : t.length + 1 + 1 < 2 + n
        · rw [if_pos h4] at hr
          subst hr
          have z2 : ((t.length : Int) + 1 + 1 < 2 + (n : Int)) = True := eq_true (by omega)
          clear hn h0
          go_enter Try.func46, Try.ntmps46
          go_wp2
          go_quiet (fail)
          go_wp2
          go_ret
          exact ⟨rfl, below_drews (Below.refl _ _) _⟩
        · rw [if_neg h4] at hr
          subst hr
          have z2 : ((t.length : Int) + 1 + 1 < 2 + (n : Int)) = False := eq_false (by omega)
          clear hn h0
          go_enter Try.func46, Try.ntmps46
          go_wp2
          go_quiet (fail)
          go_wp2
          go_ret
          exact ⟨rfl, below_drews (Below.refl _ _) _⟩
def rightOf (bs : List UInt8) (broken : Bool) : Bool := if broken then decide (bs.length = 0) else decide (firstOf bs = 0)
theorem frame_Right (w : World) (S : Nat → Prop) (A : Option Addr) (c : Nat) (bs : List UInt8) (broken : Bool) (h : Rd w S 1 A bs.length (bv bs)) (h2 : bs.length ≤ 140737488355328) (r : Bool) (hr : rightOf bs broken = r) :
    Calls Try.prog 36 #[.agg #[.slice A bs.length c, .bool broken]] w fun e w' => e = .returned (.bool r) ∧ Below w.heap.size w w' := by
  have H := Sealed.mk h
  have HR := Sealed.mk hr
  clear h hr
  cases broken with
  | true =>
    go_enter Try.func36, Try.ntmps36
    go_wp2
    go_ret
    refine ⟨?_, below_alloc _ _⟩
    rw [← HR.out]
    show Ending.returned (.bool ((bs.length : Int) == 0)) = Ending.returned (.bool (decide (bs.length = 0)))
    congr 2
    rw [Bool.eq_iff_iff]; simp
  | false =>
    obtain ⟨f, hf⟩ : ∃ f, firstOf bs = f := ⟨_, rfl⟩
    have HF := Sealed.mk hf
    clear hf
    go_enter Try.func36, Try.ntmps36
    go_wp2_with (go_at_call 46; refine (frame_first _ S A c bs (H.out.below (below_alloc _ _)) h2 f HF.out).mono ?_; rintro e w1 ⟨rfl, hb1⟩)
    go_ret
    refine ⟨?_, below_next (below_alloc _ _) hb1⟩
    rw [← HR.out]
    show Ending.returned (.bool (f == 0)) = Ending.returned (.bool (decide (firstOf bs = 0)))
    rw [HF.out]
    congr 2
end Go.Proofs.Ytkpabmhijpnchaa

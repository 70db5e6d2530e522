/- Doubles that are small whole numbers: sums, differences, comparisons. -/
import Derived.Test.YtkpabmhijpnchaaFlo
import Derived.Laws.ComplexArith
import Derived.Laws.FloatArith
set_option linter.unusedVariables false
set_option linter.unusedSimpArgs false
namespace Go.Proofs.Ytkpabmhijpnchaa
open Ieee
/-- A word is a small number. -/
def Num (x n : Nat) : Prop := x = fl n ∨ (n = 0 ∧ x = negZero)
def m64 : Nat := 13857576053419016192
theorem num_iff {x k : Nat} (hk : k < 64) : num x = some k ↔ Num x k := by
  constructor
  · intro h; exact (num_some h).2
  · rintro (h | ⟨rfl, h⟩)
    · rw [h]; exact num_fl ⟨k, hk⟩
    · rw [h]; exact num_neg
theorem t_lt : ∀ k : Fin 64, fl k.val < 2 ^ 64 := by decide +kernel
theorem num_lt {x k : Nat} (h : num x = some k) : k < 64 ∧ x < 2 ^ 64 := by
  obtain ⟨hk, h1 | ⟨hk0, h1⟩⟩ := num_some h
  · exact ⟨hk, h1 ▸ t_lt ⟨k, hk⟩⟩
  · exact ⟨hk, by rw [h1]; decide⟩
theorem t_add : ∀ i j : Fin 64, double.add (fl i.val) (fl j.val) = some (fl (i.val + j.val : Nat)) := by decide +kernel
theorem t_add0 : ∀ i : Fin 64, double.add (fl i.val) negZero = some (fl i.val) ∧ double.add negZero (fl i.val) = some (fl i.val) := by decide +kernel
theorem t_add00 : double.add negZero negZero = some negZero := by decide +kernel
theorem num_add {x y i j : Nat} (hi : i < 64) (hj : j < 64) (hx : Num x i) (hy : Num y j) : ∃ z, double.add x y = some z ∧ Num z (i + j) := by
  rcases hx with rfl | ⟨rfl, rfl⟩ <;> rcases hy with rfl | ⟨rfl, rfl⟩
  · exact ⟨_, t_add ⟨i, hi⟩ ⟨j, hj⟩, .inl rfl⟩
  · exact ⟨_, (t_add0 ⟨i, hi⟩).1, .inl rfl⟩
  · exact ⟨_, (t_add0 ⟨j, hj⟩).2, .inl (by rw [Nat.zero_add])⟩
  · exact ⟨_, t_add00, .inr ⟨rfl, rfl⟩⟩
theorem t_add1 : ∀ i : Fin 128, double.add (fl i.val) 4607182418800017408 = some (fl (i.val + 1 : Nat)) := by decide +kernel
theorem t_add1n : double.add negZero 4607182418800017408 = some (fl 1) := by decide +kernel
theorem num_add1 {x i : Nat} (hi : i < 128) (hx : Num x i) : ∃ z, double.add x 4607182418800017408 = some z ∧ Num z (i + 1) := by
  rcases hx with rfl | ⟨rfl, rfl⟩
  · exact ⟨_, t_add1 ⟨i, hi⟩, .inl rfl⟩
  · exact ⟨_, t_add1n, .inl rfl⟩
theorem t_m64 : ∀ i : Fin 128, double.add (fl (i.val + 64 : Nat)) m64 = some (fl i.val) ∧ double.sub (fl (i.val + 64 : Nat)) c64 = some (fl i.val) := by decide +kernel
theorem num_m64 {x i : Nat} (hi : i < 192) (hi' : 64 ≤ i) (hx : Num x i) : (∃ z, double.add x m64 = some z ∧ Num z (i - 64)) ∧ (∃ z, double.sub x c64 = some z ∧ Num z (i - 64)) := by
  rcases hx with rfl | ⟨rfl, rfl⟩
  · have h := t_m64 ⟨i - 64, by omega⟩
    simp only [Nat.sub_add_cancel hi'] at h
    exact ⟨⟨_, h.1, .inl rfl⟩, ⟨_, h.2, .inl rfl⟩⟩
  · omega
theorem t_sub0 : ∀ i : Fin 128, double.sub (fl i.val) 0 = some (fl i.val) := by decide +kernel
theorem t_sub0n : double.sub negZero 0 = some negZero := by decide +kernel
theorem num_sub0 {x i : Nat} (hi : i < 128) (hx : Num x i) : ∃ z, double.sub x 0 = some z ∧ Num z i := by
  rcases hx with rfl | ⟨rfl, rfl⟩
  · exact ⟨_, t_sub0 ⟨i, hi⟩, .inl rfl⟩
  · exact ⟨_, t_sub0n, .inr ⟨rfl, rfl⟩⟩
theorem t_ge : ∀ i : Fin 192, (double.order (fl i.val) c64 == some .gt || double.order (fl i.val) c64 == some .eq) = decide (64 ≤ i.val) := by decide +kernel
theorem t_gen : (double.order negZero c64 == some .gt || double.order negZero c64 == some .eq) = false := by decide +kernel
theorem num_ge {x i : Nat} (hi : i < 192) (hx : Num x i) : (double.order x c64 == some .gt || double.order x c64 == some .eq) = decide (64 ≤ i) := by
  rcases hx with rfl | ⟨rfl, rfl⟩
  · exact t_ge ⟨i, hi⟩
  · exact t_gen
theorem t_eq : ∀ i j : Fin 64, (double.order (fl i.val) (fl j.val) == some .eq) = (i.val == j.val) := by decide +kernel
theorem t_eq0 : ∀ i : Fin 64, (double.order (fl i.val) negZero == some .eq) = (i.val == 0) ∧ (double.order negZero (fl i.val) == some .eq) = (0 == i.val) := by decide +kernel
theorem t_eq00 : (double.order negZero negZero == some .eq) = true := by decide +kernel
theorem num_eq {x y i j : Nat} (hi : i < 64) (hj : j < 64) (hx : Num x i) (hy : Num y j) : (double.order x y == some .eq) = (i == j) := by
  rcases hx with rfl | ⟨rfl, rfl⟩ <;> rcases hy with rfl | ⟨rfl, rfl⟩
  · exact t_eq ⟨i, hi⟩ ⟨j, hj⟩
  · exact (t_eq0 ⟨i, hi⟩).1
  · exact (t_eq0 ⟨j, hj⟩).2
  · exact t_eq00
/-- A word against a small number: it is this one, or not. -/
theorem num_cmp {x k : Nat} (hx : x < 2 ^ 64) (hk : k < 64) : (double.order x (fl k) == some .eq) = (num x == some k) := by
  cases h : num x with
  | some n =>
    obtain ⟨hn, hN⟩ := num_some h
    rw [num_eq hn hk hN (.inl rfl)]
    rfl
  | none =>
    cases he : (double.order x (fl k) == some .eq)
    · rfl
    · rw [beq_iff_eq] at he
      have := (num_iff hk).2 (word_of_eq hx (by omega) he)
      rw [h] at this; cases this
def toI (x : Nat) : Option Int := (FloatKind.f64.decode x).toInt .zero
theorem t_sub : ∀ i j : Fin 64, ((double.sub (fl i.val) (fl j.val)).bind toI) = some ((i.val : Int) - (j.val : Int)) := by decide +kernel
theorem t_subn : ∀ i : Fin 64, ((double.sub (fl i.val) negZero).bind toI) = some (i.val : Int) ∧ ((double.sub negZero (fl i.val)).bind toI) = some (-(i.val : Int)) := by decide +kernel
theorem t_subnn : ((double.sub negZero negZero).bind toI) = some 0 := by decide +kernel
theorem num_sub {x y i j : Nat} (hi : i < 64) (hj : j < 64) (hx : Num x i) (hy : Num y j) : ∃ z, double.sub x y = some z ∧ floatToIntVal .f64 z .i64 = some ((i : Int) - (j : Int)) := by
  have key : (double.sub x y).bind toI = some ((i : Int) - (j : Int)) := by
    rcases hx with rfl | ⟨rfl, rfl⟩ <;> rcases hy with rfl | ⟨rfl, rfl⟩
    · exact t_sub ⟨i, hi⟩ ⟨j, hj⟩
    · rw [(t_subn ⟨i, hi⟩).1]; simp
    · rw [(t_subn ⟨j, hj⟩).2]; simp
    · rw [t_subnn]; rfl
  cases hz : double.sub x y with
  | none => rw [hz] at key; cases key
  | some z =>
    rw [hz] at key
    refine ⟨z, rfl, ?_⟩
    unfold floatToIntVal
    have key' : (FloatKind.f64.decode z).toInt .zero = some ((i : Int) - (j : Int)) := key
    rw [key']
    simp only
    rw [if_pos]
    have : IntKind.min .i64 = -9223372036854775808 := by decide
    have : IntKind.max .i64 = 9223372036854775807 := by decide
    omega
/-! ### hands -/
/-- Which tick (0..4095) hands show. -/
def hd (a b : Nat) : Option Nat := (num a).bind fun i => (num b).bind fun j => some (64 * i + j)
theorem hd_some {a b s : Nat} (h : hd a b = some s) : ∃ i j, i < 64 ∧ j < 64 ∧ Num a i ∧ Num b j ∧ s = 64 * i + j := by
  unfold hd at h
  cases h1 : num a with
  | none => rw [h1] at h; cases h
  | some i =>
    cases h2 : num b with
    | none => rw [h1, h2] at h; cases h
    | some j =>
      rw [h1, h2] at h
      injection h with h
      exact ⟨i, j, (num_some h1).1, (num_some h2).1, (num_some h1).2, (num_some h2).2, h.symm⟩
theorem hd_of {a b i j : Nat} (hi : i < 64) (hj : j < 64) (ha : Num a i) (hb : Num b j) : hd a b = some (64 * i + j) := by
  unfold hd
  rw [(num_iff hi).2 ha, (num_iff hj).2 hb]
  rfl
theorem hd_fl {s : Nat} (hs : s < 4096) : hd (fl (s / 64 : Nat)) (fl (s % 64 : Nat)) = some s := by
  rw [hd_of (i := s / 64) (j := s % 64) (by omega) (by omega) (.inl rfl) (.inl rfl)]
  congr 1; omega
theorem hd_lt {a b s : Nat} (h : hd a b = some s) : s < 4096 ∧ a < 2 ^ 64 ∧ b < 2 ^ 64 := by
  obtain ⟨i, j, hi, hj, ha, hb, rfl⟩ := hd_some h
  exact ⟨by omega, (num_lt ((num_iff hi).2 ha)).2, (num_lt ((num_iff hj).2 hb)).2⟩
theorem hd_eq {a b c d s t : Nat} (h : hd a b = some s) (h' : hd c d = some t) : ((double.order a c == some .eq) && (double.order b d == some .eq)) = (s == t) := by
  obtain ⟨i, j, hi, hj, ha, hb, rfl⟩ := hd_some h
  obtain ⟨k, l, hk, hl, hc, hd, rfl⟩ := hd_some h'
  rw [num_eq hi hk ha hc, num_eq hj hl hb hd, Bool.eq_iff_iff]
  simp only [Bool.and_eq_true, beq_iff_eq]
  omega
theorem hd_isSome (a b : Nat) : (hd a b).isSome = ((num a).isSome && (num b).isSome) := by
  unfold hd
  cases num a <;> cases num b <;> rfl
theorem fl0 : fl 0 = 0 := by decide
theorem eq00 : ((double.order 0 0 == some .eq) && (double.order 0 0 == some .eq)) = true := by decide
end Go.Proofs.Ytkpabmhijpnchaa

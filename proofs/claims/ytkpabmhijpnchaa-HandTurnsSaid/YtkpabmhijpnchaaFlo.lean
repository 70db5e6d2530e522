/- Doubles that are small whole numbers, of no program: which words they are, and what compares equal to them. -/
import GoSem.Core.Float
import Derived.KernelRfl
set_option linter.unusedVariables false
set_option linter.unusedSimpArgs false
namespace Go.Proofs.Ytkpabmhijpnchaa
open Ieee
/-- The word of a whole number. -/
def fl (n : Int) : Nat := FloatKind.f64.nearest n
def negZero : Nat := 9223372036854775808
/-- The magnitude of a rung, in units of the least place. -/
def V (r : Nat) : Nat := if r < 2 ^ 52 then r else (2 ^ 52 + r % 2 ^ 52) * 2 ^ (r / 2 ^ 52 - 1)
theorem V_lt {r r' : Nat} (h : r < r') : V r < V r' := by
  unfold V
  by_cases h1 : r < 2 ^ 52
  · rw [if_pos h1]
    by_cases h2 : r' < 2 ^ 52
    · rw [if_pos h2]; exact h
    · rw [if_neg h2]
      have : 1 ≤ 2 ^ (r' / 2 ^ 52 - 1) := Nat.one_le_two_pow
      calc r < 2 ^ 52 := h1
        _ ≤ 2 ^ 52 + r' % 2 ^ 52 := Nat.le_add_right _ _
        _ ≤ (2 ^ 52 + r' % 2 ^ 52) * 2 ^ (r' / 2 ^ 52 - 1) := Nat.le_mul_of_pos_right _ this
  · have h2 : ¬ r' < 2 ^ 52 := by omega
    rw [if_neg h1, if_neg h2]
    have hE : 1 ≤ r / 2 ^ 52 := by omega
    have hle : r / 2 ^ 52 ≤ r' / 2 ^ 52 := Nat.div_le_div_right (Nat.le_of_lt h)
    rcases Nat.lt_or_eq_of_le hle with hl | he
    · have hf : r % 2 ^ 52 < 2 ^ 52 := Nat.mod_lt _ (by decide)
      calc (2 ^ 52 + r % 2 ^ 52) * 2 ^ (r / 2 ^ 52 - 1) < (2 ^ 52 + 2 ^ 52) * 2 ^ (r / 2 ^ 52 - 1) := Nat.mul_lt_mul_of_pos_right (by omega) (Nat.two_pow_pos _)
        _ = 2 ^ 52 * 2 ^ (r / 2 ^ 52 - 1 + 1) := by rw [Nat.pow_succ 2 (r / 2 ^ 52 - 1)]; generalize 2 ^ (r / 2 ^ 52 - 1) = q; omega
        _ ≤ 2 ^ 52 * 2 ^ (r' / 2 ^ 52 - 1) := Nat.mul_le_mul_left _ (Nat.pow_le_pow_right (by decide) (by omega))
        _ ≤ (2 ^ 52 + r' % 2 ^ 52) * 2 ^ (r' / 2 ^ 52 - 1) := Nat.mul_le_mul_right _ (Nat.le_add_right _ _)
    · rw [← he]
      exact Nat.mul_lt_mul_of_pos_right (by omega) (Nat.two_pow_pos _)
theorem V_inj {r r' : Nat} (h : V r = V r') : r = r' := by
  rcases Nat.lt_trichotomy r r' with h1 | h1 | h1
  · have := V_lt h1; omega
  · exact h1
  · have := V_lt h1; omega
/-- Sign and rung of a word. -/
def sgn (x : Nat) : Bool := x / 2 ^ 63 % 2 == 1
def rung (x : Nat) : Nat := x % 2 ^ 63
def INF : Nat := 2047 * 2 ^ 52
theorem word_of {x : Nat} (hx : x < 2 ^ 64) : x = (if sgn x then 2 ^ 63 else 0) + rung x := by
  unfold sgn rung
  by_cases h : x < 2 ^ 63
  · rw [Nat.div_eq_of_lt h, Nat.mod_eq_of_lt h]; simp
  · have : x / 2 ^ 63 = 1 := by omega
    rw [this]; simp; omega
theorem read_finite' {x : Nat} (h : rung x < INF) : ∃ m e : Nat, double.read x = .number (sgn x) m ((e : Int) - 1074) ∧ m * 2 ^ e = V (rung x) ∧ m < 2 ^ 53 ∧ e ≤ rung x / 2 ^ 52 := by
  unfold rung INF at h
  unfold Format.read V sgn rung
  have h1 : double.signWeight = 2 ^ 63 := by decide
  have h2 : double.binade = 2 ^ 52 := by decide
  have h3 : double.infRung = 2047 * 2 ^ 52 := by decide
  have h4 : double.leastPlace = -1074 := by decide
  simp only [h1, h2, h3, h4]
  by_cases h5 : x % 2 ^ 63 < 2 ^ 52
  · rw [if_pos h5, if_pos h5]
    exact ⟨_, 0, rfl, by simp, by omega, Nat.zero_le _⟩
  · rw [if_neg h5, if_neg h5, if_pos h]
    refine ⟨_, x % 2 ^ 63 / 2 ^ 52 - 1, ?_, rfl, by omega, by omega⟩
    congr 1
    try omega
theorem read_finite {x : Nat} (h : rung x < INF) : ∃ m e : Nat, double.read x = .number (sgn x) m ((e : Int) - 1074) ∧ m * 2 ^ e = V (rung x) := by
  obtain ⟨m, e, h1, h2, _⟩ := read_finite' h
  exact ⟨m, e, h1, h2⟩
theorem read_big {x : Nat} (h : ¬ rung x < INF) : double.read x = .infinity (sgn x) ∨ ∃ t, double.read x = .nan (sgn x) t := by
  unfold rung INF at h
  unfold Format.read sgn
  have h1 : double.signWeight = 2 ^ 63 := by decide
  have h2 : double.binade = 2 ^ 52 := by decide
  have h3 : double.infRung = 2047 * 2 ^ 52 := by decide
  simp only [h1, h2, h3]
  have h5 : ¬ x % 2 ^ 63 < 2 ^ 52 := by omega
  rw [if_neg h5, if_neg h]
  by_cases h6 : x % 2 ^ 63 = 2047 * 2 ^ 52
  · rw [if_pos h6]; exact .inl rfl
  · rw [if_neg h6]; exact .inr ⟨_, rfl⟩
/-- The signed value, in units of the least place. -/
def sv (x : Nat) : Int := if sgn x then -(V (rung x) : Int) else (V (rung x) : Int)
theorem compare_scale (a b : Int) (c : Nat) (hc : 0 < c) : compare (a * c) (b * c) = compare a b := by
  have hc' : (0 : Int) < c := by omega
  simp only [compare, compareOfLessAndEq]
  by_cases h : a < b
  · rw [if_pos h, if_pos (Int.mul_lt_mul_of_pos_right h hc')]
  · rw [if_neg h, if_neg (fun h' => h (Int.lt_of_mul_lt_mul_right h' (Int.le_of_lt hc')))]
    by_cases he : a = b
    · rw [if_pos he, if_pos (by rw [he])]
    · rw [if_neg he, if_neg (fun h' => he (Int.eq_of_mul_eq_mul_right (Int.ne_of_gt hc') h'))]
theorem signed_scale (s : Bool) (m e b : Nat) (hb : b ≤ e) : signed s m (((e : Int) - 1074) - ((b : Int) - 1074)).toNat * (2 ^ b : Nat) = if s then -((m * 2 ^ e : Nat) : Int) else ((m * 2 ^ e : Nat) : Int) := by
  have h1 : (((e : Int) - 1074) - ((b : Int) - 1074)).toNat = e - b := by omega
  have h2 : m * 2 ^ (e - b) * 2 ^ b = m * 2 ^ e := by rw [Nat.mul_assoc, ← Nat.pow_add]; congr 2; omega
  rw [h1]
  unfold signed
  rw [Nat.shiftLeft_eq]
  cases s
  · simp only [Bool.false_eq_true, if_false]; rw [← Int.natCast_mul, h2]
  · simp only [if_true]; rw [Int.neg_mul, ← Int.natCast_mul, h2]
theorem order_finite {x y : Nat} (hx : rung x < INF) (hy : rung y < INF) : double.order x y = some (compare (sv x) (sv y)) := by
  obtain ⟨m, e, h1, h2⟩ := read_finite hx
  obtain ⟨n, f, h3, h4⟩ := read_finite hy
  unfold Format.order
  rw [h1, h3]
  simp only [Datum.order]
  congr 1
  obtain ⟨b, hb, hbe, hbf⟩ : ∃ b : Nat, min ((e : Int) - 1074) ((f : Int) - 1074) = (b : Int) - 1074 ∧ b ≤ e ∧ b ≤ f := ⟨min e f, by omega, Nat.min_le_left _ _, Nat.min_le_right _ _⟩
  rw [hb, ← compare_scale _ _ (2 ^ b) (Nat.two_pow_pos _), signed_scale _ _ _ _ hbe, signed_scale _ _ _ _ hbf, h2, h4]
  rfl
theorem order_eq {x y : Nat} (hy : rung y < INF) (h : double.order x y = some .eq) : rung x < INF ∧ sv x = sv y := by
  by_cases hx : rung x < INF
  · refine ⟨hx, ?_⟩
    rw [order_finite hx hy] at h
    injection h with h
    simp only [compare, compareOfLessAndEq] at h
    split at h
    · cases h
    · split at h
      · assumption
      · cases h
  · obtain ⟨n, f, h3, h4⟩ := read_finite hy
    exfalso
    unfold Format.order at h
    rw [h3] at h
    rcases read_big hx with h1 | ⟨t, h1⟩ <;> rw [h1] at h <;> simp only [Datum.order] at h
    · split at h <;> cases h
    · cases h
theorem fl_rung : ∀ k : Fin 128, rung (fl k.val) < INF ∧ sgn (fl k.val) = false ∧ rung (fl k.val) = fl k.val ∧ (fl k.val = 0 ↔ k.val = 0) := by decide +kernel
/-- What compares equal to a small number is its word; or the other zero. -/
theorem word_of_eq {x k : Nat} (hx : x < 2 ^ 64) (hk : k < 128) (h : double.order x (fl k) = some .eq) : x = fl k ∨ (k = 0 ∧ x = negZero) := by
  obtain ⟨h1, h2, h3, h4⟩ := fl_rung ⟨k, hk⟩
  simp only at h1 h2 h3 h4
  obtain ⟨h5, h6⟩ := order_eq h1 h
  have hw := word_of hx
  unfold sv at h6
  rw [h2] at h6
  simp only [Bool.false_eq_true, if_false] at h6
  cases hs : sgn x
  · rw [hs] at h6 hw
    simp only [Bool.false_eq_true, if_false, Nat.zero_add] at h6 hw
    left
    rw [hw, V_inj (Int.ofNat_inj.1 h6), h3]
  · rw [hs] at h6 hw
    simp only [if_true] at h6 hw
    have h7 : V (rung x) = 0 := by omega
    have h8 : V (rung (fl k)) = 0 := by omega
    have hv0 : V 0 = 0 := by decide
    have h9 : rung x = 0 := V_inj (h7.trans hv0.symm)
    have h10 : rung (fl k) = 0 := V_inj (h8.trans hv0.symm)
    right
    refine ⟨h4.1 (by rw [← h3]; exact h10), ?_⟩
    rw [hw, h9]
    decide
/-! ### whole -/
def trunc (x : Nat) : Nat := FloatKind.f64.encode ((FloatKind.f64.decode x).integral .zero)
/-- A small number's word: which number it is. -/
def num (x : Nat) : Option Nat := (List.range 64).find? fun k => x == fl k || (k == 0 && x == negZero)
theorem num_fl : ∀ k : Fin 64, num (fl k.val) = some k.val := by decide +kernel
theorem num_neg : num negZero = some 0 := by decide +kernel
theorem num_some {x k : Nat} (h : num x = some k) : k < 64 ∧ (x = fl k ∨ (k = 0 ∧ x = negZero)) := by
  unfold num at h
  have h1 := List.find?_some h
  have h2 := List.mem_of_find?_eq_some h
  rw [List.mem_range] at h2
  refine ⟨h2, ?_⟩
  simpa using h1
theorem cut_small {m e : Nat} (hm : m < 2 ^ 53) (he : e ≤ 1028) (s : Bool) : Toward.zero.cut s (m <<< (((e : Int) - 1074)).toNat) (-(((e : Int) - 1074))).toNat < 128 := by
  have h1 : (((e : Int) - 1074)).toNat = 0 := by omega
  have h2 : (-(((e : Int) - 1074))).toNat = 1074 - e := by omega
  rw [h1, h2]
  unfold Toward.cut
  simp only [Nat.shiftLeft_zero, Bool.toNat_false, Nat.add_zero, Nat.one_shiftLeft]
  rcases Nat.le_total (1074 - e) (m.log2 + 2) with h3 | h3
  · rw [Nat.min_eq_left h3, Nat.div_lt_iff_lt_mul (Nat.two_pow_pos _)]
    have h4 : 2 ^ 46 ≤ 2 ^ (1074 - e) := Nat.pow_le_pow_right (by decide) (by omega)
    omega
  · rw [Nat.min_eq_right h3]
    have h4 : m < 2 ^ (m.log2 + 2) := Nat.lt_trans Nat.lt_log2_self (Nat.pow_lt_pow_right (by decide) (by omega))
    rw [Nat.div_eq_of_lt h4]
    decide
def c64 : Nat := 4634204016564240384
theorem fl_big : ∀ k : Fin 128, fl k.val < c64 → k.val < 64 := by decide +kernel
theorem whole_small {x : Nat} (hx : x < 2 ^ 64) (h1 : double.order x 0 = some .gt ∨ double.order x 0 = some .eq) (h2 : double.order x c64 = some .lt) (h3 : double.order x (trunc x) = some .eq) : ∃ k : Nat, k < 64 ∧ (x = fl k ∨ (k = 0 ∧ x = negZero)) := by
  have i0 : rung 0 < INF := by decide
  have i1 : rung c64 < INF := by decide
  have hf : rung x < INF := by
    by_cases hf : rung x < INF
    · exact hf
    · exfalso
      obtain ⟨m, e, r1, _⟩ := read_finite i0
      obtain ⟨n, f, r2, _⟩ := read_finite i1
      unfold Format.order at h1 h2
      rw [r1] at h1
      rw [r2] at h2
      rcases read_big hf with h4 | ⟨t, h4⟩ <;> rw [h4] at h1 h2 <;> simp only [Datum.order] at h1 h2
      · cases hs : sgn x <;> rw [hs] at h1 h2 <;> simp at h1 h2
      · cases h2
  rw [order_finite hf i0] at h1
  rw [order_finite hf i1] at h2
  have z0 : sv 0 = 0 := by decide
  have z1 : sv c64 = (V c64 : Int) := by unfold sv; rw [if_neg (by decide)]; congr 1
  rw [z0] at h1
  rw [z1] at h2
  have hw := word_of hx
  have hge : 0 ≤ sv x := by
    rcases h1 with h1 | h1 <;> injection h1 with h1 <;> simp only [compare, compareOfLessAndEq] at h1
    · split at h1
      · cases h1
      · omega
    · split at h1
      · cases h1
      · omega
  have hlt : sv x < (V c64 : Int) := by
    injection h2 with h2
    simp only [compare, compareOfLessAndEq] at h2
    split at h2
    · assumption
    · split at h2 <;> cases h2
  unfold sv at hge hlt
  cases hs : sgn x
  · rw [hs] at hw hge hlt
    simp only [Bool.false_eq_true, if_false, Nat.zero_add] at hw hge hlt
    have hr : rung x < c64 := by
      rcases Nat.lt_or_ge (rung x) c64 with h | h
      · exact h
      · rcases Nat.lt_or_eq_of_le h with h | h
        · have := V_lt h; omega
        · rw [← h] at hlt; omega
    obtain ⟨m, e, r1, _, hm, he⟩ := read_finite' hf
    have he' : e ≤ 1028 := by unfold c64 at hr; omega
    have ht : ∃ q : Nat, q < 128 ∧ trunc x = fl q := by
      refine ⟨Toward.zero.cut (sgn x) (m <<< (((e : Int) - 1074)).toNat) (-(((e : Int) - 1074))).toNat, cut_small hm he' (sgn x), ?_⟩
      unfold trunc FloatKind.decode FloatKind.encode
      have : FloatKind.f64.format = double := rfl
      rw [this, r1]
      simp only [Datum.integral]
      unfold fl FloatKind.nearest FloatKind.encode
      rw [this, Int.natAbs_natCast, hs]
      congr 2
    obtain ⟨q, hq, hq2⟩ := ht
    rw [hq2] at h3
    rcases word_of_eq hx hq h3 with h | ⟨h, h'⟩
    · refine ⟨q, fl_big ⟨q, hq⟩ ?_, .inl h⟩
      rw [← h, hw]
      exact hr
    · exact ⟨0, Nat.zero_lt_succ _, Or.inr (And.intro rfl h')⟩
  · rw [hs] at hw hge
    simp only [if_true] at hw hge
    have h7 : V (rung x) = 0 := by omega
    have hv0 : V 0 = 0 := by decide
    have h9 : rung x = 0 := V_inj (h7.trans hv0.symm)
    have h10 : x = negZero := by rw [hw, h9]; decide
    exact ⟨0, Nat.zero_lt_succ _, Or.inr (And.intro rfl h10)⟩
/-- hand.whole, as Go reckons it. -/
def wholeGo (x : Nat) : Bool := (double.order x 0 == some .gt || double.order x 0 == some .eq) && (double.order x c64 == some .lt && double.order x (trunc x) == some .eq)
theorem wholeGo_fl : ∀ k : Fin 64, wholeGo (fl k.val) = true := by decide +kernel
theorem wholeGo_neg : wholeGo negZero = true := by decide +kernel
theorem wholeGo_num {x : Nat} (hx : x < 2 ^ 64) : wholeGo x = (num x).isSome := by
  cases hw : wholeGo x
  · cases hn : num x with
    | none => rfl
    | some k =>
      obtain ⟨hk, h | ⟨rfl, h⟩⟩ := num_some hn
      · have := wholeGo_fl ⟨k, hk⟩; simp only at this; rw [← h, hw] at this; cases this
      · rw [h, wholeGo_neg] at hw; cases hw
  · unfold wholeGo at hw
    simp only [Bool.and_eq_true, Bool.or_eq_true, beq_iff_eq] at hw
    obtain ⟨k, hk, h | ⟨rfl, h⟩⟩ := whole_small hx hw.1 hw.2.1 hw.2.2
    · rw [h]; have := num_fl ⟨k, hk⟩; simp only at this; rw [this]; rfl
    · rw [h, num_neg]; rfl
end Go.Proofs.Ytkpabmhijpnchaa

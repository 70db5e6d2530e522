/- Packed by pack.py (this session's own program): texts of the kit's printer and of my own, what is not used struck. -/
import Derived.Test.YtkgkemihhfipaaaDoorRHKx4
import Derived.Test.YtkgkemihhfipaaaDoorRDigA
set_option linter.unusedVariables false
set_option linter.unusedSimpArgs false
set_option linter.unusedSectionVars false
namespace Go.Proofs.YtkgkemihhfipaaaDoor.HK
open Go.RowKit Go.Proofs.YtkgkemihhfipaaaDoorW.PrintWords Go.Proofs.YtkgkemihhfipaaaDoorW.PrintLast Go.Proofs.YtkgkemihhfipaaaDoorW.PrintMore
variable [paydeskref07_Order.Has]
theorem wrap_in {x : Int} (h0 : -9223372036854775808 ≤ x) (h1 : x ≤ 9223372036854775807) : wrap64 x = x := by unfold wrap64; omega
theorem bt_nat (s : ByteArray) (i : Nat) (h : i < s.size) : bt s (i : Int) = ((s.data.toList[i]'(by rw [Array.length_toList]; exact h)).toNat : Int) := by
  unfold bt
  rw [dif_pos (by simpa using h)]
  simp only [Int.toNat_natCast, Array.getElem_toList]
  rfl
theorem drop_at (s : ByteArray) (i : Nat) (h : i < s.size) : s.data.toList.drop i = (s.data.toList[i]'(by rw [Array.length_toList]; exact h)) :: s.data.toList.drop (i + 1) := List.drop_eq_getElem_cons _
def dig (c : UInt8) : Bool := decide (48 ≤ c.toNat) && decide (c.toNat ≤ 57)
def isB (s : ByteArray) : Bool := s.data.toList.all dig && decide (0 < s.size)
theorem is_l0 (s : ByteArray) (hs : s.size ≤ 400) : ∀ (d i k : Nat), i + d = s.size → d < k → paydeskref01_Is.l0 k s (i : Int) = some ((s.data.toList.drop i).all dig && decide (0 < s.size)) := by
  intro d
  induction d with
  | zero =>
    intro i k hi hk
    obtain ⟨k, rfl⟩ : ∃ m, k = m + 1 := ⟨k - 1, by omega⟩
    simp only [paydeskref01_Is.l0]
    rw [if_neg (by omega), List.drop_eq_nil_of_le (by rw [Array.length_toList]; show s.size ≤ i; omega)]
    congr 1
    rw [Bool.eq_iff_iff]; simp
  | succ d ih =>
    intro i k hi hk
    obtain ⟨k, rfl⟩ : ∃ m, k = m + 1 := ⟨k - 1, by omega⟩
    have hlt : i < s.size := by omega
    simp only [paydeskref01_Is.l0]
    rw [if_pos (by omega), if_pos (by omega), bt_nat s i hlt, drop_at s i hlt, List.all_cons]
    obtain ⟨c, hc⟩ : ∃ c, s.data.toList[i]'(by rw [Array.length_toList]; exact hlt) = c := ⟨_, rfl⟩
    rw [hc]
    by_cases h1 : (c.toNat : Int) < 48
    · rw [if_pos h1]
      have : dig c = false := by unfold dig; rw [decide_eq_false (by omega)]; rfl
      rw [this]; simp
    · rw [if_neg h1]
      by_cases h2 : (c.toNat : Int) > 57
      · rw [if_pos h2]
        have : dig c = false := by unfold dig; rw [decide_eq_false (show ¬ c.toNat ≤ 57 by omega), Bool.and_false]
        rw [this]; simp
      · rw [if_neg h2]
        have : dig c = true := by unfold dig; rw [decide_eq_true (by omega), decide_eq_true (by omega)]; rfl
        rw [this, Bool.true_and, wrap_in (by omega) (by omega)]
        exact ih (i + 1) k (by omega) (by omega)
theorem is_ev (s : ByteArray) (hs : s.size ≤ 400) {k : Nat} (hk : s.size < k) : paydeskref01_Is.f k s = some (isB s) := by
  unfold paydeskref01_Is.f
  have h := is_l0 s hs s.size 0 k (by omega) hk
  rw [List.drop_zero] at h
  exact h
def digOf (c : UInt8) : Fin 10 := Fin.ofNat 10 (c.toNat - 48)
def digs (s : ByteArray) : List (Fin 10) := s.data.toList.map digOf
theorem digs_length (s : ByteArray) : (digs s).length = s.size := by unfold digs; rw [List.length_map, Array.length_toList]; rfl
theorem digs_back (s : ByteArray) (h : isB s = true) : s.data.toList = (digs s).map digByte := by
  have ha : s.data.toList.all dig = true := by
    unfold isB at h
    exact (Bool.and_eq_true_iff.1 h).1
  unfold digs
  rw [List.map_map]
  refine ((List.map_congr_left (g := id) (fun c hc => ?_)).trans (List.map_id _)).symm
  have hd := List.all_eq_true.1 ha c hc
  unfold dig at hd
  simp at hd
  have hx := c.toNat_lt
  apply UInt8.toNat_inj.1
  have h1 := digByte_val (digOf c)
  have h2 : (digOf c).val = c.toNat - 48 := by
    unfold digOf
    show (c.toNat - 48) % 10 = c.toNat - 48
    omega
  rw [h2] at h1
  show (digByte (digOf c)).toNat = c.toNat
  omega
def cnt (ds : List (Fin 10)) (i : Nat) : Nat := tw (decide ((ds.length - i) % 2 = 0)) (ds[i]?.getD 0).val
def upSum (ds : List (Fin 10)) : Nat → Nat
  | 0 => 0
  | i + 1 => upSum ds i + cnt ds i
theorem flip_false (n : Nat) : flip false n = decide (n % 2 = 1) := by
  unfold flip
  rcases Nat.mod_two_eq_zero_or_one n with h | h <;> simp [h]
theorem back_sum (ds : List (Fin 10)) : ∀ k, k ≤ ds.length → sumTo false (upto (bk ds) k) + upSum ds (ds.length - k) = upSum ds ds.length := by
  intro k
  induction k with
  | zero => intro _; simp [upto, sumTo]
  | succ k ih =>
    intro hk
    rw [upto_succ, sumTo_snoc, upto_length]
    have h := ih (by omega)
    obtain ⟨m, hm⟩ : ∃ m, ds.length - k = m + 1 := ⟨ds.length - k - 1, by omega⟩
    have e1 : ds.length - (k + 1) = m := by omega
    have e2 : ds.length - 1 - k = m := by omega
    rw [hm] at h
    rw [e1]
    have e3 : tw (flip false k) (bk ds k).2.val = cnt ds m := by
      unfold cnt bk
      rw [e2, flip_false]
      congr 1
      rw [decide_eq_decide]
      omega
    rw [e3]
    show _ = upSum ds ds.length
    rw [← h]
    show sumTo false (upto (bk ds) k) + cnt ds m + upSum ds m = sumTo false (upto (bk ds) k) + (upSum ds m + cnt ds m)
    omega
def fineB (s : ByteArray) : Bool := isB s && decide (upSum (digs s) s.size % 10 = 0)
theorem upSum_le (ds : List (Fin 10)) : ∀ i, upSum ds i ≤ 9 * i
  | 0 => Nat.le_refl _
  | i + 1 => by
    have h := upSum_le ds i
    have h2 := tw_le (decide ((ds.length - i) % 2 = 0)) (ds[i]?.getD 0)
    show upSum ds i + cnt ds i ≤ _
    unfold cnt
    omega
theorem fine_step (i n q c : Nat) (hlt : i < n) (hn : n ≤ 400) (hq : q ≤ 9 * i) (hc : c < 10) : wrap64 (wrap64 (48 + (c : Int)) - 48) = (c : Int) ∧ wrap64 ((i : Int) + 1) = ((i + 1 : Nat) : Int) ∧ wrap64 ((n : Int) - (i : Int)) = ((n - i : Nat) : Int) ∧ wrap64 (2 * (c : Int)) = 2 * (c : Int) ∧
    (2 * (c : Int) > 9 → wrap64 ((q : Int) + wrap64 (2 * (c : Int) - 9)) = ((q + (c * 2 - c / 5 * 9) : Nat) : Int)) ∧ (¬ 2 * (c : Int) > 9 → wrap64 ((q : Int) + 2 * (c : Int)) = ((q + (c * 2 - c / 5 * 9) : Nat) : Int)) ∧ wrap64 ((q : Int) + (c : Int)) = ((q + c : Nat) : Int) := by
  refine ⟨?_, ?_, ?_, wrap_in (by omega) (by omega), fun h => ?_, fun h => ?_, ?_⟩
  · rw [wrap_in (x := 48 + (c : Int)) (by omega) (by omega), wrap_in (by omega) (by omega)]; omega
  · rw [wrap_in (by omega) (by omega)]; omega
  · rw [wrap_in (by omega) (by omega)]; omega
  · rw [wrap_in (x := 2 * (c : Int) - 9) (by omega) (by omega), wrap_in (by omega) (by omega)]; omega
  · rw [wrap_in (by omega) (by omega)]; omega
  · rw [wrap_in (by omega) (by omega)]; omega
theorem fine_l0 (s : ByteArray) (hs : s.size ≤ 400) (hB : isB s = true) : ∀ (d i k : Nat), i + d = s.size → d < k → paydeskref01_Fine.l0 k s (upSum (digs s) i : Nat) (i : Int) = some (decide (upSum (digs s) s.size % 10 = 0)) := by
  intro d
  induction d with
  | zero =>
    intro i k hi hk
    obtain ⟨k, rfl⟩ : ∃ m, k = m + 1 := ⟨k - 1, by omega⟩
    obtain rfl : i = s.size := by omega
    simp only [paydeskref01_Fine.l0]
    rw [if_neg (by omega)]
    congr 1
    rw [Int.tmod_eq_emod_of_nonneg (by omega), Bool.eq_iff_iff]
    simp
    omega
  | succ d ih =>
    intro i k hi hk
    obtain ⟨k, rfl⟩ : ∃ m, k = m + 1 := ⟨k - 1, by omega⟩
    have hlt : i < s.size := by omega
    have hle := upSum_le (digs s) i
    simp only [paydeskref01_Fine.l0]
    rw [if_pos (by omega), if_pos (by omega)]
    have hb : bt s (i : Int) = 48 + (((digs s)[i]?.getD 0).val : Int) := by
      rw [bt_nat s i hlt]
      have h1 := digs_back s hB
      have hl : i < (digs s).length := by rw [digs_length]; exact hlt
      have h2 : s.data.toList[i]'(by rw [Array.length_toList]; exact hlt) = digByte (digs s)[i] := by
        have : s.data.toList[i]? = ((digs s).map digByte)[i]? := congrArg (·[i]?) h1
        rw [List.getElem?_eq_getElem (by rw [Array.length_toList]; exact hlt), List.getElem?_map, List.getElem?_eq_getElem hl] at this
        injection this
      rw [h2, digByte_val, List.getElem?_eq_getElem hl]
      rfl
    rw [hb]
    have hlen := digs_length s
    have hstep : upSum (digs s) (i + 1) = upSum (digs s) i + tw (decide ((s.size - i) % 2 = 0)) ((digs s)[i]?.getD 0).val := by
      show upSum (digs s) i + cnt (digs s) i = _
      unfold cnt
      rw [hlen]
    obtain ⟨c, hc⟩ : ∃ c, ((digs s)[i]?.getD 0).val = c := ⟨_, rfl⟩
    have hc9 : c < 10 := by rw [← hc]; exact Fin.isLt _
    rw [hc] at hstep ⊢
    have ih' := ih (i + 1) k (by omega) (by omega)
    obtain ⟨q, hq⟩ : ∃ q, upSum (digs s) i = q := ⟨_, rfl⟩
    rw [hq] at hstep hle ⊢
    rw [hstep] at ih'
    obtain ⟨e1, e2, e3, e4, e5, e6, e7⟩ := fine_step i s.size q c hlt hs hle hc9
    rw [e1, e2, e3, e4, Int.tmod_eq_emod_of_nonneg (Int.natCast_nonneg _)]
    unfold tw at ih'
    have hm : ((s.size - i : Nat) : Int) % 2 = 0 ↔ (s.size - i) % 2 = 0 := by
      clear ih' hstep hb e1 e2 e3 e4 e5 e6 e7
      omega
    by_cases hp : (s.size - i) % 2 = 0
    · rw [if_pos (hm.2 hp)]
      rw [decide_eq_true hp, if_pos rfl] at ih'
      by_cases h9 : 2 * (c : Int) > 9
      · rw [if_pos h9, e5 h9]; exact ih'
      · rw [if_neg h9, e6 h9]; exact ih'
    · rw [if_neg (fun h => hp (hm.1 h))]
      rw [decide_eq_false hp, if_neg (by simp)] at ih'
      rw [e7]; exact ih'
theorem fine_ev (s : ByteArray) (hs : s.size ≤ 400) {k : Nat} (hk : s.size < k) : paydeskref01_Fine.f k s = some (fineB s) := by
  unfold paydeskref01_Fine.f
  rw [is_ev s hs hk, Option.bind_some]
  unfold fineB
  cases h : isB s with
  | false => rfl
  | true =>
    rw [if_pos rfl, Bool.true_and]
    exact fine_l0 s hs h s.size 0 k (by omega) hk
theorem dfine_ev (s : ByteArray) (hs : s.size ≤ 400) {k : Nat} (hk : s.size < k) : digit_Fine.f k s = some (fineB s) := by
  unfold digit_Fine.f
  rw [if_neg (by omega), fine_ev s hs hk]
  rfl
theorem dfine_is {s : ByteArray} {k : Nat} {r : Bool} (h : digit_Fine.f k s = some r) : s.size ≤ 400 ∧ r = fineB s := by
  by_cases hs : s.size ≤ 400
  · refine ⟨hs, ?_⟩
    have h1 := at_rounds (g := fun k => digit_Fine.f k s) (fun k => digit_Fine.mono s k) (Nat.le_max_left k (s.size + 1)) h
    have h2 := dfine_ev s hs (k := max k (s.size + 1)) (Nat.lt_of_lt_of_le (Nat.lt_succ_self _) (Nat.le_max_right _ _))
    rw [show digit_Fine.f (max k (s.size + 1)) s = some r from h1] at h2
    injection h2
  · unfold digit_Fine.f at h
    rw [if_pos (by omega), if_pos (by omega), if_neg (by omega)] at h
    cases h
end Go.Proofs.YtkgkemihhfipaaaDoor.HK

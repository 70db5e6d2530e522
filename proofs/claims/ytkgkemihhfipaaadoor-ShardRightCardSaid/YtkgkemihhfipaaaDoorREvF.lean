/- Packed by pack.py (this session's own program): texts of the kit's printer and of my own, what is not used struck. -/
import Derived.Test.YtkgkemihhfipaaaDoorREvE
import Derived.Test.YtkgkemihhfipaaaDoorRHKx11
import Derived.Test.YtkgkemihhfipaaaDoorROrd
set_option linter.unusedVariables false
set_option linter.unusedSimpArgs false
set_option linter.unusedSectionVars false
namespace Go.Proofs.YtkgkemihhfipaaaDoor.HK
open Go.RowKit Go.Proofs.YtkgkemihhfipaaaDoorW.PrintWords Go.Proofs.YtkgkemihhfipaaaDoorW.PrintLast Go.Proofs.YtkgkemihhfipaaaDoorW.PrintMore
abbrev EK := S25
abbrev EE := S28
theorem bl_irr : ∀ x : List UInt8, Op.bytesLess x x = false
  | [] => rfl
  | a :: x => by simp [Op.bytesLess, bl_irr x]
theorem bl_trans : ∀ x y z : List UInt8, Op.bytesLess x y = true → Op.bytesLess y z = true → Op.bytesLess x z = true
  | _, [], _, h, _ => by simp [Op.bytesLess] at h
  | [], _ :: _, [], _, h => by simp [Op.bytesLess] at h
  | [], _ :: _, _ :: _, _, _ => by simp [Op.bytesLess]
  | _ :: _, _ :: _, [], _, h => by simp [Op.bytesLess] at h
  | a :: x, b :: y, c :: z, h1, h2 => by
    simp only [Op.bytesLess, Bool.or_eq_true, Bool.and_eq_true, decide_eq_true_eq, beq_iff_eq] at h1 h2 ⊢
    rcases h1 with h1 | ⟨rfl, h1⟩
    · rcases h2 with h2 | ⟨rfl, h2⟩
      · exact .inl (UInt8.lt_trans h1 h2)
      · exact .inl h1
    · rcases h2 with h2 | ⟨rfl, h2⟩
      · exact .inl h2
      · exact .inr ⟨rfl, bl_trans x y z h1 h2⟩
theorem bl_tri : ∀ x y : List UInt8, Op.bytesLess x y = false → Op.bytesLess y x = false → x = y
  | [], [], _, _ => rfl
  | [], _ :: _, h, _ => by simp [Op.bytesLess] at h
  | _ :: _, [], _, h => by simp [Op.bytesLess] at h
  | a :: x, b :: y, h1, h2 => by
    simp only [Op.bytesLess, Bool.or_eq_false_iff, Bool.and_eq_false_iff, decide_eq_false_iff_not, beq_eq_false_iff_ne] at h1 h2
    have hab : a = b := by
      have p := h1.1
      have q := h2.1
      rw [UInt8.not_lt] at p q
      exact UInt8.le_antisymm q p
    subst hab
    have e1 : Op.bytesLess x y = false := by rcases h1.2 with h | h; exact absurd rfl h; exact h
    have e2 : Op.bytesLess y x = false := by rcases h2.2 with h | h; exact absurd rfl h; exact h
    rw [bl_tri x y e1 e2]
theorem bytes_same {a b : ByteArray} (h : a.toList = b.toList) : a = b := by
  rw [ByteArray.toList_eq, ByteArray.toList_eq] at h
  cases a with | mk a => cases b with | mk b => exact congrArg ByteArray.mk (Array.toList_inj.1 h)
def ordK (a b : EK) : Int := if a.f0 < b.f0 then -1 else if b.f0 < a.f0 then 1 else if Op.bytesLess a.f1.toList b.f1.toList = true then -1 else if a.f1.toList = b.f1.toList then 0 else 1
theorem ordK_lt (a b : EK) : ordK a b < 0 ↔ a.f0 < b.f0 ∨ (a.f0 = b.f0 ∧ Op.bytesLess a.f1.toList b.f1.toList = true) := by
  unfold ordK
  by_cases h1 : a.f0 < b.f0
  · simp [h1]
  · by_cases h2 : b.f0 < a.f0
    · simp [h1, h2]; omega
    · have : a.f0 = b.f0 := by omega
      by_cases h3 : Op.bytesLess a.f1.toList b.f1.toList = true
      · simp [h1, h2, h3, this]
      · by_cases h4 : a.f1.toList = b.f1.toList <;> simp [h1, h2, h3, h4, this, bl_irr]
theorem ordK_zero (a b : EK) : ordK a b = 0 ↔ a = b := by
  unfold ordK
  constructor
  · intro h
    by_cases h1 : a.f0 < b.f0
    · simp [h1] at h
    · by_cases h2 : b.f0 < a.f0
      · simp [h1, h2] at h
      · by_cases h3 : Op.bytesLess a.f1.toList b.f1.toList = true
        · simp [h1, h2, h3] at h
        · by_cases h4 : a.f1.toList = b.f1.toList
          · have h5 := bytes_same h4
            have h6 : a.f0 = b.f0 := by omega
            cases a; cases b; simp_all
          · simp [h1, h2, h3, h4] at h
  · rintro rfl
    simp [bl_irr]
theorem ordK_gt (a b : EK) : 0 < ordK b a ↔ a.f0 < b.f0 ∨ (a.f0 = b.f0 ∧ Op.bytesLess a.f1.toList b.f1.toList = true) := by
  unfold ordK
  by_cases h1 : b.f0 < a.f0
  · simp [h1]; omega
  · by_cases h2 : a.f0 < b.f0
    · simp [h1, h2]
    · have h : a.f0 = b.f0 := by omega
      by_cases h3 : Op.bytesLess b.f1.toList a.f1.toList = true
      · have : Op.bytesLess a.f1.toList b.f1.toList = false := by
          cases h4 : Op.bytesLess a.f1.toList b.f1.toList with
          | false => rfl
          | true => have := bl_trans _ _ _ h3 h4; rw [bl_irr] at this; cases this
        simp [h1, h2, h3, this]
      · by_cases h4 : b.f1.toList = a.f1.toList
        · simp [h1, h2, h4, bl_irr]
        · have : Op.bytesLess a.f1.toList b.f1.toList = true := by
            cases h5 : Op.bytesLess a.f1.toList b.f1.toList with
            | true => rfl
            | false => exact absurd (bl_tri _ _ (by simpa using h3) h5) h4
          simp [h1, h2, h3, h4, this, h]
theorem ordK_is : IsOrd ordK where
  refl a := (ordK_zero a a).2 rfl
  eq a b h := (ordK_zero a b).1 h
  flip a b := (ordK_lt a b).trans (ordK_gt a b).symm
  trans a b d h1 h2 := by
    rw [ordK_lt] at h1 h2 ⊢
    rcases h1 with h1 | ⟨h1, h1'⟩
    · rcases h2 with h2 | ⟨h2, _⟩
      · exact .inl (by omega)
      · exact .inl (by omega)
    · rcases h2 with h2 | ⟨h2, h2'⟩
      · exact .inl (by omega)
      · exact .inr ⟨by omega, bl_trans _ _ _ h1' h2'⟩
theorem ordK_three (a b : EK) : ordK a b = -1 ∨ ordK a b = 0 ∨ ordK a b = 1 := by
  unfold ordK
  by_cases h1 : a.f0 < b.f0
  · exact .inl (if_pos h1)
  · rw [if_neg h1]
    by_cases h2 : b.f0 < a.f0
    · exact .inr (.inr (if_pos h2))
    · rw [if_neg h2]
      by_cases h3 : Op.bytesLess a.f1.toList b.f1.toList = true
      · exact .inl (if_pos h3)
      · rw [if_neg h3]
        by_cases h4 : a.f1.toList = b.f1.toList
        · exact .inr (.inl (if_pos h4))
        · exact .inr (.inr (if_neg h4))
theorem order_ev (a b : EK) : paydeskref07_Order.f a.f0 a.f1 b.f0 b.f1 = some (ordK a b) := by
  unfold paydeskref07_Order.f ordK
  by_cases h1 : a.f0 < b.f0
  · simp [h1, Int.ne_of_lt h1]
  · by_cases h2 : b.f0 < a.f0
    · have : ¬ a.f0 = b.f0 := by omega
      simp [h1, h2, this]
    · have h : a.f0 = b.f0 := by omega
      by_cases h3 : a.f1.toList = b.f1.toList
      · simp [h1, h2, h, h3, bl_irr]
      · by_cases h4 : Op.bytesLess a.f1.toList b.f1.toList = true <;> simp [h1, h2, h, h3, h4]
theorem key_same (a b : EK) : (a.f0 == b.f0 && (a.f1.toList == b.f1.toList)) = decide (ordK a b = 0) := by
  have : (ordK a b = 0) ↔ (a.f0 = b.f0 ∧ a.f1.toList = b.f1.toList) := by
    rw [ordK_zero]
    constructor
    · rintro rfl; simp
    · rintro ⟨h1, h2⟩
      have := bytes_same h2
      cases a; cases b; simp_all
  rw [Bool.eq_iff_iff, Bool.and_eq_true, beq_iff_eq, beq_iff_eq, decide_eq_true_eq, this]
theorem tail3 (p q : Prop) [Decidable p] [Decidable q] (c : Int) : (if p then (if q then (if c = 1 then some true else some (c == 2)) else some false) else some false) = some (decide p && (decide q && (decide (c = 1) || decide (c = 2)))) := by
  by_cases h1 : p <;> by_cases h2 : q <;> by_cases h3 : c = 1 <;> simp [h1, h2, h3]
  rfl
def stagedB (st : Int) (code : ByteArray) (tr ca : Int) : Bool :=
  if st = 1 then decide (tr = 0) && (decide (ca = 0) && decide (code.toList = []))
  else if st = 2 then decide (tr = 0) && (decide (ca = 0) && decide (code.toList = [48, 48]))
  else if st = 3 then decide (tr = 0) && (decide (ca = 0) && (!decide (code.toList = [48, 48]) && fB 39 code))
  else if st = 4 ∨ st = 5 ∨ st = 6 then fB 39 code && (decide (0 ≤ tr) && (decide (tr ≤ 16) && (decide (ca = 1) || decide (ca = 2))))
  else false
theorem staged_ev (a : Int) (b : ByteArray) (st : Int) (p : ByteArray) (m : Int) (code : ByteArray) (tr ca : Int) (hc : code.size ≤ 400) {k : Nat} (hk : 1001 ≤ k) : shard_staged.f k a b st p m code tr ca = some (stagedB st code tr ca) := by
  obtain ⟨k, rfl⟩ : ∃ q, k = q + 1 := ⟨k - 1, by omega⟩
  have hf := fB_ev 39 code hc (k := k) (by omega)
  unfold shard_staged.f stagedB
  simp only [shard_staged.j0]
  rw [hf]
  simp only [Option.bind_some]
  by_cases h4 : st < 4
  · rw [if_pos h4]
    by_cases ht : tr = 0
    · rw [if_pos ht, decide_eq_true ht]
      by_cases hca : ca = 0
      · subst hca
        rw [if_neg (by simp)]
        by_cases h1 : st = 1
        · simp [h1]; by_cases hq : code.toList = [] <;> simp [hq]
        · by_cases h2 : st = 2
          · simp [h2]; by_cases hq : code.toList = [48, 48] <;> simp [hq]
          · by_cases h3 : st = 3
            · simp [h3]; by_cases hq : code.toList = [48, 48] <;> simp [hq]
            · have h5 : ¬ (st = 4 ∨ st = 5 ∨ st = 6) := by omega
              have h6 : ¬ st = 4 := by omega
              have h7 : ¬ st = 5 := by omega
              have h8 : ¬ st = 6 := by omega
              simp [h1, h2, h3, h6, h7, h8]
      · rw [if_pos (by simpa using hca), decide_eq_false hca]
        have h5 : ¬ (st = 4 ∨ st = 5 ∨ st = 6) := by omega
        rw [if_neg h5]
        simp
    · rw [if_neg ht, if_pos trivial, decide_eq_false ht]
      have h5 : ¬ (st = 4 ∨ st = 5 ∨ st = 6) := by omega
      rw [if_neg h5]
      simp
  · rw [if_neg h4, if_neg (by simp), if_neg (show ¬ st = 1 by omega), if_neg (show ¬ st = 2 by omega), if_neg (show ¬ st = 3 by omega), if_neg (show ¬ st = 1 by omega), if_neg (show ¬ st = 2 by omega), if_neg (show ¬ st = 3 by omega)]
    cases fB 39 code with
    | false => by_cases h1 : st = 4 <;> by_cases h2 : st = 5 <;> by_cases h3 : st = 6 <;> simp [h1, h2, h3]
    | true =>
      have h3 := tail3 (tr ≥ 0) (tr ≤ 16) ca
      by_cases h1 : st = 4
      · rw [if_pos h1, if_pos rfl, h3, if_pos (.inl h1), Bool.true_and]
      · by_cases h2 : st = 5
        · rw [if_neg h1, if_pos h2, if_pos rfl, h3, if_pos (.inr (.inl h2)), Bool.true_and]
        · by_cases h6 : st = 6
          · rw [if_neg h1, if_neg h2, if_pos h6, if_pos rfl, h3, if_pos (.inr (.inr h6)), Bool.true_and]
          · simp [h1, h2, h6]
def entryB (e : EE) : Bool := keyB e.f0.f0.toNat e.f0.f1 && (fineB e.f2 && (decide (e.f2.size < 20) && (decide (e.f3 < 1000000000000) && stagedB e.f1 e.f4 e.f5 e.f6)))
structure Ok (e : EE) : Prop where
  s0 : 0 ≤ e.f0.f0
  s1 : e.f0.f0 < 4294967296
  a0 : 0 ≤ e.f3
  a1 : e.f3 < 18446744073709551616
  rrn : e.f0.f1.size ≤ 400
  pan : e.f2.size ≤ 400
  code : e.f4.size ≤ 400
theorem entry_ev (e : EE) (h : Ok e) {k : Nat} (hk : 2000 ≤ k) : shard_RightEntry.f k e.f0.f0 e.f0.f1 e.f1 e.f2 e.f3 e.f4 e.f5 e.f6 = some (entryB e) := by
  obtain ⟨n, hn⟩ : ∃ n : Nat, e.f0.f0 = (n : Int) := ⟨e.f0.f0.toNat, by have := h.s0; omega⟩
  have hlt : n < 4294967296 := by have := h.s1; omega
  unfold shard_RightEntry.f entryB
  rw [hn, key_ev n _ hlt h.rrn hk, dfine_ev _ h.pan (by have := h.pan; omega), fB_ev 2 _ h.pan (by omega), staged_ev _ _ _ _ _ _ _ _ h.code (by omega)]
  simp only [Option.bind_some, Int.toNat_natCast]
  cases keyB n e.f0.f1 with
  | false => simp
  | true =>
    cases hf : fineB e.f2 with
    | false => simp
    | true =>
      have hb : isB e.f2 = true := by unfold fineB at hf; exact (Bool.and_eq_true_iff.1 hf).1
      rw [fB_2 _ hb]
      by_cases h1 : e.f2.size < 20 <;> by_cases h2 : e.f3 < 1000000000000 <;> simp [h1, h2]
theorem entry10_ev (e : EE) (h : Ok e) {k : Nat} (hk : 2010 ≤ k) : paydeskref10_RightEntry.f k e.f0.f0 e.f0.f1 e.f1 e.f2 e.f3 e.f4 e.f5 e.f6 = some (entryB e) := by
  obtain ⟨n, hn⟩ : ∃ n : Nat, e.f0.f0 = (n : Int) := ⟨e.f0.f0.toNat, by have := h.s0; omega⟩
  obtain ⟨k, rfl⟩ : ∃ q, k = q + 3 := ⟨k - 3, by omega⟩
  have hr := rB_ev 39 e.f4 h.code (k := k) (by omega)
  have hr1 := rB_ev 39 e.f4 h.code (k := k + 1) (by omega)
  unfold paydeskref10_RightEntry.f entryB
  rw [hn, key7_ev n _ h.rrn (by omega), fine_ev _ h.pan (by have := h.pan; omega)]
  simp only [Option.bind_some, Int.toNat_natCast, paydeskref10_RightEntry.j0, paydeskref10_RightEntry.j1, paydeskref10_RightEntry.j2, hr, hr1]
  cases keyB n e.f0.f1 with
  | false => simp
  | true =>
    cases hf : fineB e.f2 with
    | false => simp
    | true =>
      by_cases h1 : e.f2.size < 20
      · have h1' : ¬ ((e.f2.size : Int) > 19) := by omega
        by_cases h2 : e.f3 < 1000000000000
        · have h2' : ¬ (e.f3 ≥ 1000000000000) := by omega
          unfold stagedB
          generalize e.f1 = st
          generalize e.f4 = code
          generalize e.f5 = tr
          generalize e.f6 = ca
          by_cases s1 : st = 1
          · subst s1
            by_cases ht : tr = 0 <;> by_cases hc : ca = 0 <;> by_cases hq : code.toList = [] <;> simp [h1, h1', h2, h2', ht, hc, hq]
          · by_cases s2 : st = 2
            · subst s2
              by_cases ht : tr = 0 <;> by_cases hc : ca = 0 <;> by_cases hq : code.toList = [48, 48] <;> simp [h1, h1', h2, h2', ht, hc, hq]
            · by_cases s3 : st = 3
              · subst s3
                by_cases ht : tr = 0 <;> by_cases hc : ca = 0 <;> by_cases hq : code.toList = [48, 48] <;> simp [h1, h1', h2, h2', ht, hc, hq]
              · by_cases s4 : st = 4 ∨ st = 5 ∨ st = 6
                · have g1 : st > 3 := by omega
                  have g2 : st < 7 := by omega
                  have e1 : (tr < 17) ↔ tr ≤ 16 := by omega
                  have e2 : (0 < ca ∧ ca < 3) ↔ (ca = 1 ∨ ca = 2) := by omega
                  cases fB 39 code with
                  | false => simp [h1, h1', h2, h2', s1, s2, s3, s4, g1, g2]
                  | true =>
                    by_cases ha : 0 ≤ tr
                    · by_cases hb : tr ≤ 16
                      · have hb' : tr < 17 := by omega
                        by_cases hc : ca > 0
                        · by_cases hd : ca < 3
                          · have : ca = 1 ∨ ca = 2 := by omega
                            simp [h1, h1', h2, h2', s1, s2, s3, s4, g1, g2, ha, hb, hb', hc, hd, this]
                          · have n1 : ¬ ca = 1 := by omega
                            have n2 : ¬ ca = 2 := by omega
                            simp [h1, h1', h2, h2', s1, s2, s3, s4, g1, g2, ha, hb, hb', hc, hd, n1, n2]
                        · have n1 : ¬ ca = 1 := by omega
                          have n2 : ¬ ca = 2 := by omega
                          simp [h1, h1', h2, h2', s1, s2, s3, s4, g1, g2, ha, hb, hb', hc, n1, n2]
                      · have hb' : ¬ tr < 17 := by omega
                        simp [h1, h1', h2, h2', s1, s2, s3, s4, g1, g2, ha, hb, hb']
                    · simp [h1, h1', h2, h2', s1, s2, s3, s4, g1, g2, ha]
                · have g : ¬ (st > 3 ∧ st < 7) := by omega
                  by_cases g1 : st > 3
                  · have g2 : ¬ st < 7 := by omega
                    simp [h1, h1', h2, h2', s1, s2, s3, s4, g1, g2]
                  · simp [h1, h1', h2, h2', s1, s2, s3, s4, g1]
        · have h2' : e.f3 ≥ 1000000000000 := by omega
          simp [h1, h1', h2, h2']
      · have h1' : (e.f2.size : Int) > 19 := by omega
        simp [h1, h1']
end Go.Proofs.YtkgkemihhfipaaaDoor.HK

/- Packed by pack.py (this session's own program): texts of the kit's printer and of my own, what is not used struck. -/
import Derived.Test.YtkgkemihhfipaaaDoorREvF
set_option linter.unusedVariables false
set_option linter.unusedSimpArgs false
set_option linter.unusedSectionVars false
namespace Go.Proofs.YtkgkemihhfipaaaDoor.HK
open Go.RowKit Go.Proofs.YtkgkemihhfipaaaDoorW.PrintWords Go.Proofs.YtkgkemihhfipaaaDoorW.PrintLast Go.Proofs.YtkgkemihhfipaaaDoorW.PrintMore
abbrev κE : EE → EK := fun x => x.f0
abbrev fd (l : List EE) (k : EK) : Option EE := findA ordK κE l k
abbrev pt (l : List EE) (e : EE) : List EE := putA ordK κE l e
abbrev dl (l : List EE) (k : EK) : List EE := delA ordK κE l k
theorem rd_at (l : List EE) (i : Nat) (h : i < l.length) : rd_T28 l (i : Int) = l[i] := by
  unfold rd_T28
  rw [Int.toNat_natCast, List.getD_eq_getElem?_getD, List.getElem?_eq_getElem h]
  rfl
theorem drop_cons (l : List EE) (i : Nat) (h : i < l.length) : l.drop i = l[i] :: l.drop (i + 1) := List.drop_eq_getElem_cons h
theorem next64 (i n : Nat) (h : i < n) (hn : n ≤ 1000) : wrap64 ((i : Int) + 1) = ((i + 1 : Nat) : Int) := by rw [wrap_in (by omega) (by omega)]; omega
def found (r : Option EE) : Int × ByteArray × Int × ByteArray × Int × ByteArray × Int × Int × Bool := match r with
  | some x => (x.f0.f0, x.f0.f1, x.f1, x.f2, x.f3, x.f4, x.f5, x.f6, true)
  | none => (0, (⟨#[]⟩ : ByteArray), 0, (⟨#[]⟩ : ByteArray), 0, (⟨#[]⟩ : ByteArray), 0, 0, false)
theorem find_l0 (l : List EE) (q : EK) (hn : l.length ≤ 1000) : ∀ (d i k : Nat), i + d = l.length → d < k → shard_Find.l0 k l (l.length : Int) (i : Int) q.f0 q.f1 = some (found (fd (l.drop i) q)) := by
  intro d
  induction d with
  | zero =>
    intro i k hi hk
    obtain ⟨k, rfl⟩ : ∃ m, k = m + 1 := ⟨k - 1, by omega⟩
    rw [shard_Find.l0, if_neg (by omega), List.drop_eq_nil_of_le (by omega)]
    rfl
  | succ d ih =>
    intro i k hi hk
    obtain ⟨k, rfl⟩ : ∃ m, k = m + 1 := ⟨k - 1, by omega⟩
    have hlt : i < l.length := by omega
    rw [shard_Find.l0, if_pos (by omega), if_pos (by omega), if_pos (by omega), rd_at l i hlt, key_same l[i].f0 q, next64 i _ hlt hn, ih (i + 1) k (by omega) (by omega), drop_cons l i hlt]
    have hf : fd (l[i] :: l.drop (i + 1)) q = if ordK l[i].f0 q = 0 then some l[i] else fd (l.drop (i + 1)) q := rfl
    by_cases h : ordK l[i].f0 q = 0
    · rw [if_pos (by simpa using h), hf, if_pos h]
      rfl
    · rw [if_neg (by simpa using h), hf, if_neg h]
theorem find_ev (l : List EE) (q : EK) (hn : l.length ≤ 1000) {k : Nat} (hk : 1001 ≤ k) : shard_Find.f k l q.f0 q.f1 = some (found (fd l q)) := by
  have h := find_l0 l q hn l.length 0 k (by omega) (by omega)
  simpa [shard_Find.f] using h
def placeN : List EE → EK → Nat
  | [], _ => 0
  | x :: r, q => if ordK x.f0 q = 0 then 0 else placeN r q + 1
def placeI (l : List EE) (q : EK) : Int := if placeN l q < l.length then (placeN l q : Int) else -1
theorem placeN_find : ∀ (l : List EE) (q : EK), fd l q = l[placeN l q]?
  | [], _ => rfl
  | x :: r, q => by
    unfold fd findA placeN
    split
    · rfl
    · rw [List.getElem?_cons_succ]
      exact placeN_find r q
theorem placeN_del : ∀ (l : List EE) (q : EK), placeN l q < l.length → dl l q = l.take (placeN l q) ++ l.drop (placeN l q + 1)
  | [], _, h => by simp at h
  | x :: r, q, h => by
    unfold dl delA placeN
    unfold placeN at h
    split
    · rfl
    · rename_i hne
      rw [if_neg hne] at h
      simp only [List.length_cons] at h
      rw [show delA ordK κE r q = _ from placeN_del r q (by omega)]
      rfl
theorem place_l0 (l : List EE) (q : EK) (hn : l.length ≤ 1000) : ∀ (d i k : Nat), i + d = l.length → d < k → paydeskref10_Place.l0 k l (i : Int) q.f0 q.f1 = some (if placeN (l.drop i) q < d then ((i + placeN (l.drop i) q : Nat) : Int) else -1) := by
  intro d
  induction d with
  | zero =>
    intro i k hi hk
    obtain ⟨k, rfl⟩ : ∃ m, k = m + 1 := ⟨k - 1, by omega⟩
    rw [paydeskref10_Place.l0, if_neg (by omega), if_neg (by omega)]
  | succ d ih =>
    intro i k hi hk
    obtain ⟨k, rfl⟩ : ∃ m, k = m + 1 := ⟨k - 1, by omega⟩
    have hlt : i < l.length := by omega
    rw [paydeskref10_Place.l0, if_pos (by omega), if_pos (by omega), rd_at l i hlt, key_same l[i].f0 q, next64 i _ hlt hn, ih (i + 1) k (by omega) (by omega), drop_cons l i hlt]
    have hp : placeN (l[i] :: l.drop (i + 1)) q = if ordK l[i].f0 q = 0 then 0 else placeN (l.drop (i + 1)) q + 1 := rfl
    by_cases h : ordK l[i].f0 q = 0
    · rw [if_pos h] at hp
      rw [if_pos (by simpa using h), hp, if_pos (by omega)]
      rfl
    · rw [if_neg h] at hp
      rw [if_neg (by simpa using h), hp]
      by_cases h2 : placeN (l.drop (i + 1)) q < d
      · rw [if_pos h2, if_pos (by omega)]; congr 1; omega
      · rw [if_neg h2, if_neg (by omega)]
theorem place_ev (l : List EE) (q : EK) (hn : l.length ≤ 1000) {k : Nat} (hk : 1001 ≤ k) : paydeskref10_Place.f k l q.f0 q.f1 = some (placeI l q) := by
  have h := place_l0 l q hn l.length 0 k (by omega) (by omega)
  simp only [List.drop_zero, Nat.zero_add] at h
  unfold paydeskref10_Place.f placeI
  exact h
theorem same_l0 (l : List EE) (hn : l.length ≤ 1000) : ∀ (d i k : Nat), i + d = l.length → d < k → paydeskref10_Same.l0 k l l (i : Int) = some true := by
  intro d
  induction d with
  | zero =>
    intro i k hi hk
    obtain ⟨k, rfl⟩ : ∃ m, k = m + 1 := ⟨k - 1, by omega⟩
    rw [paydeskref10_Same.l0, if_neg (by omega)]
  | succ d ih =>
    intro i k hi hk
    obtain ⟨k, rfl⟩ : ∃ m, k = m + 1 := ⟨k - 1, by omega⟩
    have hlt : i < l.length := by omega
    rw [paydeskref10_Same.l0, if_pos (by omega), if_pos (by omega), if_pos (by omega), if_neg (by simp), next64 i _ hlt hn, ih (i + 1) k (by omega) (by omega)]
theorem same_ev (l : List EE) (hn : l.length ≤ 1000) {k : Nat} (hk : 1001 ≤ k) : paydeskref10_Same.f k l l = some true := by
  have h := same_l0 l hn l.length 0 k (by omega) (by omega)
  unfold paydeskref10_Same.f
  rw [if_pos rfl]
  exact h
def shortE (e : EE) : Bool := decide (e.f0.f1.size ≤ 300) && (decide (e.f2.size ≤ 300) && decide (e.f4.size ≤ 300))
theorem shortEntry_ev (e : EE) : paydeskref10_ShortEntry.f e.f0.f0 e.f0.f1 e.f1 e.f2 e.f3 e.f4 e.f5 e.f6 = some (shortE e) := by
  unfold paydeskref10_ShortEntry.f paydeskref07_Short.f shortE
  rw [Option.bind_some]
  by_cases h1 : e.f0.f1.size ≤ 300
  · by_cases h2 : e.f2.size ≤ 300
    · rw [if_pos (by simp; omega), if_pos (by omega), decide_eq_true h1, decide_eq_true h2]
      simp
      omega
    · rw [if_pos (by simp; omega), if_neg (by omega), decide_eq_true h1, decide_eq_false h2]
      rfl
  · rw [if_neg (by simp; omega), decide_eq_false h1]
    rfl
def shortL : Nat → List EE → Bool
  | _, [] => true
  | 0, _ :: _ => true
  | d + 1, x :: r => shortE x && shortL d r
theorem short_l0 (l : List EE) : ∀ (d i k : Nat), i + d = 200 → 2 * d + 2 ≤ k → i ≤ l.length → paydeskref10_Short.l0 k l (i : Int) = some (shortL d (l.drop i) && decide (l.length ≤ 200)) := by
  intro d
  induction d with
  | zero =>
    intro i k hi hk hl
    obtain ⟨k, rfl⟩ : ∃ m, k = m + 2 := ⟨k - 2, by omega⟩
    have e1 : decide ((i : Int) < 200) = false := by simp; omega
    have e2 : decide ((l.length : Int) ≤ 200) = decide (l.length ≤ 200) := by rw [decide_eq_decide]; omega
    have e3 : shortL 0 (l.drop i) = true := by cases l.drop i <;> rfl
    rw [paydeskref10_Short.l0, e1, ite_self, paydeskref10_Short.j1, if_neg (by simp), e2, e3, Bool.true_and]
  | succ d ih =>
    intro i k hi hk hl
    obtain ⟨k, rfl⟩ : ∃ m, k = m + 2 := ⟨k - 2, by omega⟩
    have e2 : decide ((l.length : Int) ≤ 200) = decide (l.length ≤ 200) := by rw [decide_eq_decide]; omega
    by_cases hlt : i < l.length
    · rw [paydeskref10_Short.l0, if_pos (by omega), paydeskref10_Short.j1, if_pos (by simp; omega), if_pos (by omega), if_pos (by omega), rd_at l i hlt, shortEntry_ev, Option.bind_some, wrap_in (by omega) (by omega), show ((i : Int) + 1) = ((i + 1 : Nat) : Int) by omega, ih (i + 1) k (by omega) (by omega) (by omega), drop_cons l i hlt]
      simp only [shortL]
      cases shortE l[i] <;> simp
    · rw [paydeskref10_Short.l0, if_neg (by omega), paydeskref10_Short.j1, if_neg (by simp), e2, List.drop_eq_nil_of_le (by omega)]
      rfl
def shortB (l : List EE) : Bool := shortL 200 l && decide (l.length ≤ 200)
theorem short_ev (l : List EE) {k : Nat} (hk : 1001 ≤ k) : paydeskref10_Short.f k l = some (shortB l) := by
  have h := short_l0 l 200 0 k (by omega) (by omega) (by omega)
  unfold paydeskref10_Short.f
  exact h
theorem shortL_all : ∀ (d : Nat) (l : List EE), l.length ≤ d → shortL d l = true → ∀ x ∈ l, shortE x = true
  | _, [], _, _, x, hx => by simp at hx
  | 0, _ :: _, h, _, _, _ => by simp at h
  | d + 1, y :: r, hl, h, x, hx => by
    unfold shortL at h
    rw [Bool.and_eq_true] at h
    rcases List.mem_cons.1 hx with rfl | hx
    · exact h.1
    · exact shortL_all d r (by simpa using hl) h.2 x hx
theorem shortB_all {l : List EE} (h : shortB l = true) : l.length ≤ 200 ∧ ∀ x ∈ l, shortE x = true := by
  unfold shortB at h
  rw [Bool.and_eq_true, decide_eq_true_eq] at h
  exact ⟨h.2, shortL_all 200 l h.2 h.1⟩
theorem put_done (l : List EE) (e : EE) (hn : l.length ≤ 1000) : ∀ (d i k : Nat) (acc : List EE), i + d = l.length → 2 * d + 2 ≤ k → acc.length ≤ 10000 + i → (∀ x ∈ l.drop i, ordK e.f0 x.f0 < 0) →
    paydeskref10_put.l0 k l acc true (i : Int) e.f0.f0 e.f0.f1 e.f1 e.f2 e.f3 e.f4 e.f5 e.f6 = some (acc ++ l.drop i) := by
  intro d
  induction d with
  | zero =>
    intro i k acc hi hk ha hx
    obtain ⟨k, rfl⟩ : ∃ m, k = m + 2 := ⟨k - 2, by omega⟩
    rw [paydeskref10_put.l0, if_neg (by omega), if_pos rfl, List.drop_eq_nil_of_le (by omega), List.append_nil]
  | succ d ih =>
    intro i k acc hi hk ha hx
    obtain ⟨k, rfl⟩ : ∃ m, k = m + 2 := ⟨k - 2, by omega⟩
    have hlt : i < l.length := by omega
    rw [drop_cons l i hlt] at hx ⊢
    have h0 := hx l[i] List.mem_cons_self
    have hne : ¬ ordK e.f0 l[i].f0 = 0 := by omega
    have h := ih (i + 1) k (acc ++ [l[i]]) (by omega) (by omega) (by simp; omega) (fun x hm => hx x (List.mem_cons_of_mem _ hm))
    rw [paydeskref10_put.l0, if_pos (by omega), if_pos (by omega), rd_at l i hlt, order_ev e.f0 l[i].f0, Option.bind_some, if_pos (by omega), Bool.not_true]
    simp only [paydeskref10_put.j1]
    rw [if_neg (by simp), if_neg hne, if_pos (by omega), if_pos (by omega), if_pos (by omega), rd_at l i hlt, next64 i _ hlt hn]
    refine h.trans ?_
    rw [List.append_assoc]
    rfl
theorem put10_l0 (l : List EE) (e : EE) (hn : l.length ≤ 1000) (hinc : Inc ordK κE l) : ∀ (d i k : Nat) (acc : List EE), i + d = l.length → 2 * d + 2 ≤ k → acc.length ≤ i →
    paydeskref10_put.l0 k l acc false (i : Int) e.f0.f0 e.f0.f1 e.f1 e.f2 e.f3 e.f4 e.f5 e.f6 = some (acc ++ pt (l.drop i) e) := by
  intro d
  induction d with
  | zero =>
    intro i k acc hi hk ha
    obtain ⟨k, rfl⟩ : ∃ m, k = m + 2 := ⟨k - 2, by omega⟩
    rw [paydeskref10_put.l0, if_neg (by omega), if_neg (by simp), if_pos (by omega), List.drop_eq_nil_of_le (by omega)]
    rfl
  | succ d ih =>
    intro i k acc hi hk ha
    obtain ⟨k, rfl⟩ : ∃ m, k = m + 2 := ⟨k - 2, by omega⟩
    have hlt : i < l.length := by omega
    have hin : Inc ordK κE (l.drop i) := List.Pairwise.sublist (List.drop_sublist i l) hinc
    rw [drop_cons l i hlt] at hin
    have hab := (List.pairwise_cons.1 hin).1
    rw [drop_cons l i hlt]
    rw [paydeskref10_put.l0, if_pos (by omega), if_pos (by omega), rd_at l i hlt, order_ev e.f0 l[i].f0, Option.bind_some]
    simp only [paydeskref10_put.j1]
    unfold pt putA
    by_cases h1 : ordK e.f0 l[i].f0 < 0
    · rw [if_pos (by omega), if_pos (by rfl), if_pos (by omega), Option.bind_some, if_neg (by omega), if_pos (by omega), if_pos (by omega), if_pos (by simp; omega), rd_at l i hlt, next64 i _ hlt hn, if_pos h1]
      refine (put_done l e hn d (i + 1) k _ (by omega) (by omega) (by simp; omega) fun x hx => ordK_is.trans _ _ _ h1 (hab x hx)).trans ?_
      rw [List.append_assoc, List.append_assoc]
      rfl
    · rw [if_neg h1]
      by_cases h2 : ordK e.f0 l[i].f0 = 0
      · rw [if_pos (by omega), if_pos (by rfl), if_pos (by omega), Option.bind_some, if_pos h2, if_pos h2, next64 i _ hlt hn]
        refine (put_done l e hn d (i + 1) k _ (by omega) (by omega) (by simp; omega) fun x hx => by have := hab x hx; rw [(ordK_zero _ _).1 h2]; exact this).trans ?_
        rw [List.append_assoc]
        rfl
      · rw [if_neg (by omega), if_neg (by simp), if_neg h2, if_neg h2, if_pos (by omega), if_pos (by omega), if_pos (by omega), rd_at l i hlt, next64 i _ hlt hn]
        refine (ih (i + 1) k (acc ++ [l[i]]) (by omega) (by omega) (by simp; omega)).trans ?_
        rw [List.append_assoc]
        rfl
theorem put10_ev (l : List EE) (e : EE) (hn : l.length ≤ 1000) (hinc : Inc ordK κE l) {k : Nat} (hk : 2002 ≤ k) : paydeskref10_put.f k l e.f0.f0 e.f0.f1 e.f1 e.f2 e.f3 e.f4 e.f5 e.f6 = some (pt l e) := by
  have h := put10_l0 l e hn hinc l.length 0 k [] (by omega) (by omega) (by simp)
  unfold paydeskref10_put.f
  simpa using h
end Go.Proofs.YtkgkemihhfipaaaDoor.HK

/- Packed by pack.py (this session's own program): texts of the kit's printer and of my own, what is not used struck. -/
import Derived.WalkKit
set_option linter.unusedVariables false
set_option linter.unusedSimpArgs false
set_option linter.unusedSectionVars false
namespace Go.Proofs.YtkgkemihhfipaaaDoor
structure IsOrd {K : Type} (c : K → K → Int) : Prop where
  refl : ∀ a, c a a = 0
  eq : ∀ a b, c a b = 0 → a = b
  flip : ∀ a b, c a b < 0 ↔ 0 < c b a
  trans : ∀ a b d, c a b < 0 → c b d < 0 → c a d < 0
section
variable {α K : Type} (c : K → K → Int) (κ : α → K)
def putA : List α → α → List α
  | [], e => [e]
  | x :: xs, e => if c (κ e) (κ x) < 0 then e :: x :: xs else if c (κ e) (κ x) = 0 then e :: xs else x :: putA xs e
def delA : List α → K → List α
  | [], _ => []
  | x :: xs, k => if c (κ x) k = 0 then xs else x :: delA xs k
def findA : List α → K → Option α
  | [], _ => none
  | x :: xs, k => if c (κ x) k = 0 then some x else findA xs k
def incB : List α → Bool
  | [] => true
  | [_] => true
  | x :: y :: r => decide (c (κ x) (κ y) < 0) && incB (y :: r)
def Inc (l : List α) : Prop := l.Pairwise (fun x y => c (κ x) (κ y) < 0)
variable {c κ} (hc : IsOrd c)
include hc
theorem inc_iff : ∀ (l : List α), incB c κ l = true ↔ Inc c κ l
  | [] => by simp [incB, Inc]
  | [x] => by simp [incB, Inc]
  | x :: y :: r => by
    have ih := inc_iff (y :: r)
    unfold incB
    rw [Bool.and_eq_true, decide_eq_true_eq, ih]
    unfold Inc
    rw [List.pairwise_cons (l := y :: r)]
    constructor
    · rintro ⟨h1, h2⟩
      refine ⟨fun z hz => ?_, h2⟩
      rcases List.mem_cons.1 hz with rfl | hz
      · exact h1
      · exact hc.trans _ _ _ h1 ((List.pairwise_cons.1 h2).1 z hz)
    · rintro ⟨h1, h2⟩
      exact ⟨h1 y (by simp), h2⟩
theorem find_mem : ∀ (l : List α) (k : K) (x : α), findA c κ l k = some x → x ∈ l ∧ κ x = k
  | [], k, x, h => by simp [findA] at h
  | y :: ys, k, x, h => by
    unfold findA at h
    split at h
    · rename_i h1
      injection h with h
      subst h
      exact ⟨by simp, hc.eq _ _ h1⟩
    · obtain ⟨h1, h2⟩ := find_mem ys k x h
      exact ⟨List.mem_cons_of_mem _ h1, h2⟩
theorem find_none : ∀ (l : List α) (k : K), findA c κ l k = none → ∀ x ∈ l, c (κ x) k ≠ 0
  | [], k, _, x, hx => by simp at hx
  | y :: ys, k, h, x, hx => by
    unfold findA at h
    split at h
    · cases h
    · rename_i h1
      rcases List.mem_cons.1 hx with rfl | hx
      · exact h1
      · exact find_none ys k h x hx
theorem ne_flip (a b : K) (h : c a b ≠ 0) : c b a ≠ 0 := by
  intro h2
  have := hc.eq _ _ h2
  subst this
  exact h (hc.refl _)
theorem len_put_none : ∀ (l : List α) (e : α), findA c κ l (κ e) = none → (putA c κ l e).length = l.length + 1
  | [], e, _ => by simp [putA]
  | x :: xs, e, h => by
    have hx := ne_flip hc _ _ (find_none hc _ _ h x (by simp))
    have ht : findA c κ xs (κ e) = none := by
      unfold findA at h
      split at h
      · cases h
      · exact h
    unfold putA
    split
    · simp
    · simp [len_put_none xs e ht]
theorem len_put_some : ∀ (l : List α) (e x : α), Inc c κ l → findA c κ l (κ e) = some x → (putA c κ l e).length = l.length
  | [], e, x, _, h => by simp [findA] at h
  | y :: ys, e, x, hi, h => by
    have hp := List.pairwise_cons.1 hi
    unfold putA
    split
    · rename_i h1
      exfalso
      obtain ⟨hm, hk⟩ := find_mem hc _ _ _ h
      rcases List.mem_cons.1 hm with rfl | hm
      · rw [hk, hc.refl] at h1; omega
      · have h2 := hp.1 x hm
        rw [hk] at h2
        have h3 := (hc.flip _ _).1 h1
        omega
    · split
      · simp
      · rename_i h2
        have ht : findA c κ ys (κ e) = some x := by
          unfold findA at h
          rw [if_neg (ne_flip hc _ _ h2)] at h
          exact h
        simp [len_put_some ys e x hp.2 ht]
structure At (l : List α) (k : K) (p : Nat) : Prop where
  le : p ≤ l.length
  lo : ∀ j x, l[j]? = some x → j < p → c (κ x) k < 0
  hi : ∀ j x, l[j]? = some x → p ≤ j → 0 ≤ c (κ x) k
theorem At.tail {l : List α} {x : α} {k : K} {p : Nat} (h : At (c := c) (κ := κ) (x :: l) k (p + 1)) : At (c := c) (κ := κ) l k p :=
  ⟨by have := h.le; simp at this; omega, fun j y hy hj => h.lo (j + 1) y (by simpa using hy) (by omega), fun j y hy hj => h.hi (j + 1) y (by simpa using hy) (by omega)⟩
theorem inc_above {l : List α} {x : α} {k : K} (hi : Inc c κ (x :: l)) (h : 0 ≤ c (κ x) k) : ∀ y ∈ l, 0 < c (κ y) k := by
  intro y hy
  have h2 := (List.pairwise_cons.1 hi).1 y hy
  rcases Int.lt_or_eq_of_le h with h3 | h3
  · exact (hc.flip _ _).1 (hc.trans _ _ _ ((hc.flip _ _).2 h3) h2)
  · have := hc.eq _ _ h3.symm
    rw [← this]
    exact (hc.flip _ _).1 h2
theorem find_above {l : List α} {k : K} (h : ∀ y ∈ l, 0 < c (κ y) k) : findA c κ l k = none := by
  cases hf : findA c κ l k with
  | none => rfl
  | some y =>
    obtain ⟨hm, hk⟩ := find_mem hc _ _ _ hf
    have := h y hm
    rw [hk, hc.refl] at this
    omega
theorem At.find : ∀ (l : List α) (k : K) (p : Nat), Inc c κ l → At (c := c) (κ := κ) l k p → findA c κ l k = match l[p]? with | some x => if c (κ x) k = 0 then some x else none | none => none
  | [], k, p, _, _ => by simp [findA]
  | x :: xs, k, 0, hi, h => by
    have h0 := h.hi 0 x rfl (by omega)
    have ha := inc_above hc hi h0
    simp only [List.getElem?_cons_zero]
    unfold findA
    split
    · rfl
    · exact find_above hc ha
  | x :: xs, k, p + 1, hi, h => by
    have h0 := h.lo 0 x rfl (by omega)
    rw [findA, if_neg (by omega), At.find xs k p (List.pairwise_cons.1 hi).2 (h.tail hc)]
    simp
theorem At.put : ∀ (l : List α) (e : α) (p : Nat), At (c := c) (κ := κ) l (κ e) p → findA c κ l (κ e) = none → putA c κ l e = l.take p ++ e :: l.drop p
  | [], e, p, _, _ => by simp [putA]
  | x :: xs, e, 0, h, hn => by
    have h0 := h.hi 0 x rfl (by omega)
    have hx := find_none hc _ _ hn x (by simp)
    unfold putA
    rw [if_pos ((hc.flip _ _).2 (by omega))]
    rfl
  | x :: xs, e, p + 1, h, hn => by
    have h0 := h.lo 0 x rfl (by omega)
    have h1 := (hc.flip _ _).1 h0
    have ht : findA c κ xs (κ e) = none := by
      unfold findA at hn
      rw [if_neg (by omega)] at hn
      exact hn
    unfold putA
    rw [if_neg (by omega), if_neg (by omega), At.put xs e p (h.tail hc) ht]
    rfl
theorem At.set : ∀ (l : List α) (e y : α) (p : Nat), At (c := c) (κ := κ) l (κ e) p → l[p]? = some y → κ y = κ e → putA c κ l e = l.set p e
  | [], e, y, p, _, hn, _ => by simp at hn
  | x :: xs, e, y, 0, h, hn, hk => by
    simp at hn
    subst hn
    unfold putA
    rw [hk, if_neg (by rw [hc.refl]; omega), if_pos (hc.refl _)]
    rfl
  | x :: xs, e, y, p + 1, h, hn, hk => by
    have h0 := h.lo 0 x rfl (by omega)
    have h1 := (hc.flip _ _).1 h0
    unfold putA
    rw [if_neg (by omega), if_neg (by omega), At.set xs e y p (h.tail hc) (by simpa using hn) hk]
    rfl
theorem At.del : ∀ (l : List α) (k : K) (y : α) (p : Nat), At (c := c) (κ := κ) l k p → l[p]? = some y → κ y = k → delA c κ l k = l.take p ++ l.drop (p + 1)
  | [], k, y, p, _, hn, _ => by simp at hn
  | x :: xs, k, y, 0, h, hn, hk => by
    simp at hn
    subst hn
    subst hk
    unfold delA
    rw [if_pos (hc.refl _)]
    rfl
  | x :: xs, k, y, p + 1, h, hn, hk => by
    have h0 := h.lo 0 x rfl (by omega)
    unfold delA
    rw [if_neg (by omega), At.del xs k y p (h.tail hc) (by simpa using hn) hk]
    rfl
end
end Go.Proofs.YtkgkemihhfipaaaDoor

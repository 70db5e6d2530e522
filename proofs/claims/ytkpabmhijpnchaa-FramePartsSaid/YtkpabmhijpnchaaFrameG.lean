/- What the feeding of frames tells: the plain law. -/
import Derived.Test.YtkpabmhijpnchaaFrameF
set_option linter.unusedVariables false
set_option linter.unusedSimpArgs false
namespace Go.Proofs.Ytkpabmhijpnchaa
open Go.RowKit
theorem firstOf_append (a b : List UInt8) (h : firstOf a ≠ 0) : firstOf (a ++ b) = firstOf a := by
  match a, h with
  | [], h => exact absurd rfl h
  | [x], h => exact absurd rfl h
  | x :: y :: t, h =>
    unfold firstOf at h ⊢
    simp only [List.cons_append] at h ⊢
    by_cases h1 : x.toNat * 256 + y.toNat = 0 ∨ 2048 < x.toNat * 256 + y.toNat
    · rw [if_pos h1, if_pos h1]
    · rw [if_neg h1] at h ⊢
      rw [if_neg h1]
      by_cases h2 : (x :: y :: t).length < 2 + (x.toNat * 256 + y.toNat)
      · rw [if_pos h2] at h; exact absurd rfl h
      · rw [if_neg h2, if_neg (by simp only [List.length_cons, List.length_append] at h2 ⊢; omega)]
theorem feed_append : ∀ (m : Nat) (a b : List UInt8), a.length = m → ((feed a).2.2 = true → (feed (a ++ b)).2.2 = true) ∧ ((feed a).2.2 = false → feed (a ++ b) = ((feed a).1 ++ (feed ((feed a).2.1 ++ b)).1, (feed ((feed a).2.1 ++ b)).2) ∧ firstOf (feed a).2.1 = 0 ∧ (feed a).2.1.length ≤ a.length ∧ (feed a).1.length ≤ a.length) := by
  intro m
  induction m using Nat.strongRecOn with
  | _ m ih =>
    intro a b hm
    by_cases h : 0 < firstOf a
    · obtain ⟨n, hn⟩ : ∃ n : Nat, firstOf a = (n : Int) := ⟨(firstOf a).toNat, by omega⟩
      have hl := firstOf_le a h
      have e1 := feed_step a n hn (by omega)
      have e2 := feed_step (a ++ b) n (by rw [firstOf_append a b (by omega)]; exact hn) (by omega)
      rw [List.take_append_of_le_length (by omega), List.drop_append_of_le_length (by omega)] at e2
      obtain ⟨i1, i2⟩ := ih (a.drop n).length (by rw [List.length_drop]; omega) (a.drop n) b rfl
      rw [e1, e2]
      refine ⟨i1, fun hf => ?_⟩
      obtain ⟨j1, j2, j3, j4⟩ := i2 hf
      rw [List.length_drop] at j3 j4
      refine ⟨?_, j2, ?_, ?_⟩
      · rw [j1]; rfl
      · show (feed (a.drop n)).2.1.length ≤ _; omega
      · show ((a.take n).drop 2 :: (feed (a.drop n)).1).length ≤ _
        rw [List.length_cons]; omega
    · have e1 := feed_end a h
      rw [e1]
      refine ⟨fun ht => ?_, fun hf => ?_⟩
      · have h0 : firstOf a < 0 := by simpa using ht
        have e2 := feed_end (a ++ b) (by rw [firstOf_append a b (by omega)]; exact h)
        rw [e2, firstOf_append a b (by omega)]
        simpa using h0
      · have h0 : ¬ firstOf a < 0 := by simpa using hf
        exact ⟨by simp, (by show firstOf a = 0; omega), Nat.le_refl _, Nat.zero_le _⟩
theorem firstOf_frame (x t : List UInt8) (h1 : 0 < x.length) (h2 : x.length ≤ 300) : firstOf (frameOf x ++ t) = ((x.length + 2 : Nat) : Int) := by
  have e1 : (UInt8.ofNat (x.length / 256)).toNat = x.length / 256 := by rw [UInt8.toNat_ofNat']; omega
  have e2 : (UInt8.ofNat (x.length % 256)).toNat = x.length % 256 := by rw [UInt8.toNat_ofNat']; omega
  show firstOf (UInt8.ofNat (x.length / 256) :: UInt8.ofNat (x.length % 256) :: (x ++ t)) = _
  unfold firstOf
  simp only [e1, e2]
  rw [show x.length / 256 * 256 + x.length % 256 = x.length by omega, if_neg (by omega), if_neg (by simp; omega)]
  omega
def frames (L : List (List UInt8)) : List UInt8 := (L.map frameOf).flatten
theorem frameOf_length (x : List UInt8) : (frameOf x).length = x.length + 2 := rfl
theorem frames_append (L M : List (List UInt8)) : frames (L ++ M) = frames L ++ frames M := by unfold frames; simp
theorem frames_one (x : List UInt8) : frames [x] = frameOf x := by unfold frames; simp
theorem frames_length : ∀ (L : List (List UInt8)), (∀ x ∈ L, x.length ≤ 300) → (frames L).length ≤ 302 * L.length
  | [], _ => by simp [frames]
  | x :: L, h => by
    have := frames_length L fun y hy => h y (List.mem_cons_of_mem _ hy)
    have h1 := h x (List.mem_cons_self ..)
    have e : frames (x :: L) = frameOf x ++ frames L := by unfold frames; simp
    rw [e, List.length_append, frameOf_length, List.length_cons]
    omega
theorem feed_frames : ∀ (L : List (List UInt8)), (∀ x ∈ L, 0 < x.length ∧ x.length ≤ 300) → feed (frames L) = (L, [], false)
  | [], _ => by rfl
  | x :: L, h => by
    obtain ⟨h1, h2⟩ := h x (List.mem_cons_self ..)
    have e : frames (x :: L) = frameOf x ++ frames L := by unfold frames; simp
    rw [e, feed_step _ _ (firstOf_frame x (frames L) h1 h2) (by omega)]
    have e1 : (frameOf x ++ frames L).take (x.length + 2) = frameOf x := List.take_left' (frameOf_length x)
    have e2 : (frameOf x ++ frames L).drop (x.length + 2) = frames L := List.drop_left' (frameOf_length x)
    rw [e1, e2, feed_frames L fun y hy => h y (List.mem_cons_of_mem _ hy)]
    rfl
/-- Frames in two parts. -/
theorem feed_two (L : List (List UInt8)) (h : ∀ x ∈ L, 0 < x.length ∧ x.length ≤ 300) (k : Nat) : ∃ L1 R1 L2, feed ((frames L).take k) = (L1, R1, false) ∧ firstOf R1 = 0 ∧ R1.length ≤ (frames L).length ∧ L1.length ≤ (frames L).length ∧ feed (R1 ++ (frames L).drop k) = (L2, [], false) ∧ L1 ++ L2 = L := by
  have hf := feed_frames L h
  obtain ⟨a1, a2⟩ := feed_append _ ((frames L).take k) ((frames L).drop k) rfl
  rw [List.take_append_drop, hf] at a1 a2
  have hb : (feed ((frames L).take k)).2.2 = false := by
    cases hx : (feed ((frames L).take k)).2.2 with
    | false => rfl
    | true => exact absurd (a1 hx) (by simp)
  obtain ⟨j1, j2, j3, j4⟩ := a2 hb
  have hl : ((frames L).take k).length ≤ (frames L).length := by rw [List.length_take]; omega
  obtain ⟨⟨L1, R1, b1⟩, hx1⟩ : ∃ t, feed ((frames L).take k) = t := ⟨_, rfl⟩
  rw [hx1] at j1 j2 j3 j4 hb
  obtain rfl : b1 = false := hb
  obtain ⟨⟨L2, R2, b2⟩, hx2⟩ : ∃ t, feed (R1 ++ (frames L).drop k) = t := ⟨_, rfl⟩
  simp only at j1 j2 j3 j4
  rw [hx2] at j1
  injection j1 with q1 q2
  injection q2 with q2 q3
  subst q2 q3
  exact ⟨L1, R1, L2, hx1, j2, by omega, by omega, hx2, q1.symm⟩
theorem Fed.ok {w w' : World} {all : List UInt8} {e : Ending} (h : Fed w all e w') {L : List (List UInt8)} {R : List UInt8} (hf : feed all = (L, R, false)) :
    ∃ A c O d, e = .returned (.tuple #[.agg #[.slice A R.length c, .bool false], .slice O L.length d, .int .i64 0]) ∧ L.length ≤ d ∧ R.length ≤ c ∧ Rd2 w' (fun k => w.heap.size ≤ k) O L ∧ Rd w' (fun k => w.heap.size ≤ k) 1 A R.length (bv R) ∧ Below w.heap.size w w' := by
  obtain ⟨A, c, O, d, he, h1, h2, h3, h4⟩ := h
  rw [hf] at he h1 h2 h3
  obtain ⟨h3, h5⟩ := h3 rfl
  exact ⟨A, c, O, d, he, h1, h3, h2, h5, h4⟩
theorem Fed.broken {w w' : World} {all : List UInt8} {e : Ending} (h : Fed w all e w') {L : List (List UInt8)} {R : List UInt8} (hf : feed all = (L, R, true)) :
    ∃ A c O d, e = .returned (.tuple #[.agg #[.slice A 0 c, .bool true], .slice O L.length d, .int .i64 12]) ∧ L.length ≤ d ∧ Rd2 w' (fun k => w.heap.size ≤ k) O L ∧ Below w.heap.size w w' := by
  obtain ⟨A, c, O, d, he, h1, h2, h3, h4⟩ := h
  rw [hf] at he h1 h2
  exact ⟨A, c, O, d, he, h1, h2, h4⟩
end Go.Proofs.Ytkpabmhijpnchaa

/- The references' small functions on lists of bytes. -/
import Derived.Test.YtkpabmhijpnchaaLib1
set_option linter.unusedVariables false
set_option linter.unusedSimpArgs false
namespace Go.Proofs.Ytkpabmhijpnchaa
open Go.RowKit
set_option maxHeartbeats 1000000 in
theorem ref05_Lists (w : World) (A : Option Addr) (c : Nat) (L : List (List UInt8)) (B : Option Addr) (d : Nat) (M : List (List UInt8)) (hL : Rd2 w Anywhere A L) (hM : Rd2 w Anywhere B M) (h1 : L.length ≤ 140737488355328) (h2 : M.length ≤ 140737488355328) (b : Bool) (hb : decide (L = M) = b) :
    Calls Try.prog 35 #[.slice A L.length c, .slice B M.length d] w fun e w' => e = .returned (.bool b) ∧ Below w.heap.size w w' := by
  by_cases hlen : L.length = M.length
  · have h3 : ((L.length : Int) != (M.length : Int)) = false := by simp [hlen]
    have HL := Sealed.mk hL
    have HM := Sealed.mk hM
    have HB := Sealed.mk hb
    have HN := Sealed.mk hlen
    have hlt : M.length ≤ L.length := by omega
    have hlt' : L.length ≤ M.length := by omega
    clear hL hM hb hlen
    go_enter Try.func35, Try.ntmps35
    go_wp2
    go_loopw [5] (fun i wr => ∃ k : Nat, k ≤ L.length ∧ i = .int .i64 k ∧ Sealed (L.take k = M.take k) ∧ Below w.heap.size w wr) (fun i _ => L.length - (intOf i).toNat)
    case atStart => exact ⟨0, Nat.zero_le _, rfl, ⟨rfl⟩, Below.refl _ _⟩
    case round =>
      obtain ⟨k, hk, rfl, htk, hbr⟩ := hrel
      by_cases hlt2 : k < L.length
      · have hlt3 : k < M.length := by omega
        obtain ⟨ad, A1, c1, rfl, q1, hc1, hr1⟩ := (HL.out.below hbr).at_ hlt2
        obtain ⟨bd, B1, d1, rfl, p1, hd1, hr2⟩ := (HM.out.below hbr).at_ hlt3
        have s1 := fun n => run_string_of (P := Try.prog) (hr1.drews n) 25 5 9 Try.underlying25 Try.underlying5 Try.underlying9 c1
        have s2 := fun n => run_string_of (P := Try.prog) (hr2.drews n) 25 5 9 Try.underlying25 Try.underlying5 Try.underlying9 d1
        have HR1 := Sealed.mk hr1
        have HR2 := Sealed.mk hr2
        clear hr1 hr2
        have t1 := str_toList L[k]
        have t2 := str_toList M[k]
        by_cases he : L[k] = M[k]
        · have he' : (L[k] == M[k]) = true := by simpa using he
          have HE := Sealed.mk he
          clear he
          go_wp2
          go_quiet (fail)
          go_wp2
          go_roundw
          case rel => exact ⟨k + 1, by omega, by go_num, ⟨take_step htk.out hlt2 hlt3 HE.out⟩, below_drews hbr _⟩
          case measure => simp [intOf]; omega
        · have he' : (L[k] == M[k]) = false := by simpa using he
          have HE := Sealed.mk he
          clear he
          go_wp2
          go_quiet (fail)
          go_wp2
          go_ret
          refine ⟨?_, below_drews hbr _⟩
          rw [← HB.out, decide_eq_false (fun e => HE.out (by subst e; rfl))]
          rfl
      · go_wp2
        go_ret
        refine ⟨?_, hbr⟩
        have hkl : k = L.length := by omega
        have e1 := htk.out
        rw [hkl, List.take_length, HN.out, List.take_length] at e1
        rw [← HB.out, decide_eq_true e1]
        rfl
  · have h3 : ((L.length : Int) != (M.length : Int)) = true := by simp; omega
    obtain rfl : b = false := by rw [← hb, decide_eq_false_iff_not]; intro he; exact hlen (by rw [he])
    clear hL hM hb hlen
    go_enter Try.func35, Try.ntmps35
    go_wp2
    go_ret
    exact ⟨rfl, Below.refl _ _⟩
def lists13 (L : List (List UInt8)) : Bool := (L.take 300).all (fun x => decide (x.length ≤ 3000)) && decide (L.length ≤ 300)
set_option maxHeartbeats 1000000 in
set_option maxRecDepth 100000 in
theorem ref13_Lists (w : World) (A : Option Addr) (c : Nat) (L : List (List UInt8)) (hL : Rd2 w Anywhere A L) (h1 : L.length ≤ 9223372036854775807) (b : Bool) (hb : lists13 L = b) :
    Calls Try.prog 9 #[.slice A L.length c] w fun e w' => e = .returned (.bool b) ∧ Below w.heap.size w w' := by
  have HL := Sealed.mk hL
  have HB := Sealed.mk hb
  clear hL hb
  go_enter Try.func9, Try.ntmps9
  go_wp2
  go_loopw [3] (fun i wr => ∃ k : Nat, k ≤ L.length ∧ k ≤ 300 ∧ i = .int .i64 k ∧ Sealed ((L.take k).all (fun x => decide (x.length ≤ 3000)) = true) ∧ Below w.heap.size w wr) (fun i _ => L.length - (intOf i).toNat)
  case atStart => exact ⟨0, Nat.zero_le _, Nat.zero_le _, rfl, ⟨rfl⟩, Below.refl _ _⟩
  case round =>
    obtain ⟨k, hk, hk3, rfl, hall, hbr⟩ := hrel
    by_cases hlt : k < L.length
    · have g1 : decide ((k : Int) < (L.length : Int)) = true := by simpa using hlt
      by_cases hlt3 : k < 300
      · have g2 : decide ((k : Int) < 300) = true := by simp; omega
        obtain ⟨ad, A1, c1, rfl, q1, hc1, hr1⟩ := (HL.out.below hbr).at_ hlt
        clear hr1
        by_cases hx : L[k].length ≤ 3000
        · have hx' : ¬ 3000 < L[k].length := by omega
          go_wp2
          go_roundw
          case rel => exact ⟨k + 1, by omega, by omega, by go_num, ⟨by rw [List.take_succ_eq_append_getElem hlt, List.all_append, hall.out]; simpa using hx⟩, by first | exact hbr | exact below_drews hbr _⟩
          case measure => simp [intOf]; omega
        · have hx' : 3000 < L[k].length := by omega
          go_wp2
          go_ret
          refine ⟨?_, by first | exact hbr | exact below_drews hbr _⟩
          have e1 : lists13 L = false := by
            unfold lists13
            have : (L.take 300).all (fun x => decide (x.length ≤ 3000)) = false := by
              rw [List.all_eq_false]
              exact ⟨L[k], List.mem_take_iff_getElem.2 ⟨k, by omega, rfl⟩, by simpa using hx⟩
            rw [this]; rfl
          rw [← HB.out, e1]
          rfl
      · have g2 : decide ((k : Int) < 300) = false := by simp; omega
        go_wp2
        go_ret
        refine ⟨?_, by first | exact hbr | exact below_drews hbr _⟩
        have e0 : k = 300 := by omega
        have e1 : lists13 L = false := by
          unfold lists13
          have : decide (L.length ≤ 300) = false := by simp; omega
          rw [this, Bool.and_false]
        rw [← HB.out, e1]
        simp; omega
    · have g1 : decide ((k : Int) < (L.length : Int)) = false := by simp; omega
      go_wp2
      go_ret
      refine ⟨?_, by first | exact hbr | exact below_drews hbr _⟩
      have e0 : k = L.length := by omega
      have e1 : lists13 L = true := by
        unfold lists13
        have h := hall.out
        rw [e0, List.take_length] at h
        rw [List.take_of_length_le (by omega), h]
        simp; omega
      rw [← HB.out, e1]
      simp; omega
end Go.Proofs.Ytkpabmhijpnchaa

/- slices.Concat at bytes. -/
import Derived.Test.YtkpabmhijpnchaaFrameC
set_option linter.unusedVariables false
set_option linter.unusedSimpArgs false
namespace Go.Proofs.Ytkpabmhijpnchaa
open Go.RowKit
def sumLen (L : List (List UInt8)) : Nat := L.flatten.length
theorem sumLen_take {L : List (List UInt8)} {k : Nat} (h : k < L.length) : sumLen (L.take (k + 1)) = sumLen (L.take k) + L[k].length := by
  unfold sumLen
  rw [List.take_succ_eq_append_getElem h, List.flatten_append, List.length_append]
  simp only [List.flatten_cons, List.flatten_nil, List.append_nil]
theorem sumLen_le (L : List (List UInt8)) (k : Nat) : sumLen (L.take k) ≤ sumLen L := by
  unfold sumLen
  conv => rhs; rw [← List.take_append_drop k L]
  rw [List.flatten_append, List.length_append]
  omega
set_option maxRecDepth 100000 in
theorem concat (w : World) (A : Option Addr) (c : Nat) (L : List (List UInt8)) (hL : Rd2 w Anywhere A L) (h1 : L.length ≤ 1000) (h2 : sumLen L ≤ 1000000) (h3 : 0 < sumLen L) :
    Calls Try.prog 45 #[.slice A L.length c] w (Made w 5 1 (sumLen L) (bv L.flatten)) := by
  have HL := Sealed.mk hL
  clear hL
  go_enter Try.func45, Try.ntmps45
  go_wp2
  go_loopw [3, 11] (fun s i wr => ∃ k : Nat, k ≤ L.length ∧ i = .int .i64 k ∧ s = .int .i64 (sumLen (L.take k) : Nat) ∧ w = wr) (fun _ i _ => L.length - (intOf i).toNat)
  case atStart => exact ⟨0, Nat.zero_le _, rfl, rfl, rfl⟩
  case round =>
    obtain ⟨k, hk, rfl, rfl, rfl⟩ := hrel
    by_cases hlt : k < L.length
    · obtain ⟨ad, A1, c1, rfl, q1, hc1, hr1⟩ := HL.out.at_ hlt
      have e1 := sumLen_take hlt
      have e2 := sumLen_le L (k + 1)
      obtain ⟨m, hm⟩ : ∃ m, sumLen (L.take k) = m := ⟨_, rfl⟩
      rw [hm] at e1 ⊢
      have w1 : IntKind.wrap .i64 ((m : Int) + (L[k].length : Int)) = (m : Int) + (L[k].length : Int) := IntWalk.i64_in _ (by omega)
      have g1 : ((m : Int) + (L[k].length : Int) < 0) = False := eq_false (by omega)
      go_wp2
      go_roundw
      case rel => exact ⟨k + 1, by omega, by go_num, by rw [e1]; simp⟩
      case measure => simp [intOf]; omega
    · have hk2 : k = L.length := by omega
      subst hk2
      rw [List.take_length]
      go_wp2_with (go_at_call 48; refine (grow_nil _ (sumLen L) h3 (by omega)).mono ?_; rintro e w1 ⟨cap, rfl, hcap, hrow, hb⟩)
      go_loopw [6, 27] (fun v i wr => ∃ k A1 c1, k ≤ L.length ∧ i = .int .i64 (k : Nat) ∧ v = .slice A1 (sumLen (L.take k)) c1 ∧ Sealed (wr.ownsRow w.heap.size 5 1 v (sumLen (L.take k)) (bv (L.take k).flatten)) ∧ Below w.heap.size w wr) (fun _ i _ => L.length - (intOf i).toNat)
      case atStart => exact ⟨0, _, cap, Nat.zero_le _, rfl, rfl, ⟨hrow.own (Nat.le_refl _)⟩, hb⟩
      case round =>
        obtain ⟨k, A1, c1, hk, rfl, rfl, hown, hbr⟩ := hrel
        by_cases hlt : k < L.length
        · obtain ⟨ad, A2, c2, rfl, q1, hc2, hr2⟩ := (HL.out.below hbr).at_ hlt
          have e1 := sumLen_take hlt
          have e2 := sumLen_le L (k + 1)
          have e3 : bv (L.take (k + 1)).flatten = bv (L.take k).flatten ++ bv L[k] := by rw [List.take_succ_eq_append_getElem hlt, List.flatten_append, bv_append]; simp only [List.flatten_cons, List.flatten_nil, List.append_nil]
          have E1 := Sealed.mk e1
          have E3 := Sealed.mk e3
          have hm : sumLen (L.take k) + L[k].length ≤ 1000000 := by omega
          clear e1 e2 e3
          go_wp2_with (at_builtin; refine wpList_append_any _ rfl (.tmp 31) (.tmp 32) _ rfl w.heap.size 5 _ 1 1 Try.underlying25 u8_info rfl (by omega) (.slice A1 (sumLen (L.take k)) c1) (sumLen (L.take k)) _ rfl hown.out Anywhere _ L[k].length c2 (bv L[k]) rfl hr2 ?h1 ?h2 ?h3 ?h4 ?_; (case h1 => exact bv_one _); (case h2 => simp only [maxLen]; omega); (case h3 => omega); (case h4 => exact hbr.size); intro A5 c5 w5 hc5 ho5 hg5 hat5; have hb5 : Below w.heap.size w w5 := hbr.grown hg5 hbr.size (own_base hown.out))
          go_roundw
          case rel => exact ⟨k + 1, A5, c5, by omega, by go_num, by rw [E1.out], by rw [E1.out, E3.out]; exact ⟨ho5⟩, hb5⟩
          case measure => simp [intOf]; omega
        · obtain rfl : k = L.length := by omega
          rw [List.take_length] at hown
          go_wp2
          go_ret
          have ho := hown.out
          refine ⟨_, _, by rw [List.take_length]; rfl, ?_, by simpa using ho, hbr⟩
          obtain ⟨A', c', he, hc'⟩ := own_slice ho
          injection he with e4 e5 e6
          omega
set_option maxRecDepth 100000 in
theorem concat_zero (w : World) (A : Option Addr) (c : Nat) (L : List (List UInt8)) (hL : Rd2 w Anywhere A L) (h1 : L.length ≤ 1000) (h2 : sumLen L ≤ 1000000) (h3 : sumLen L = 0) :
    Calls Try.prog 45 #[.slice A L.length c] w (Made w 5 1 (sumLen L) (bv L.flatten)) := by
  have HL := Sealed.mk hL
  clear hL
  go_enter Try.func45, Try.ntmps45
  go_wp2
  go_loopw [3, 11] (fun s i wr => ∃ k : Nat, k ≤ L.length ∧ i = .int .i64 k ∧ s = .int .i64 (sumLen (L.take k) : Nat) ∧ w = wr) (fun _ i _ => L.length - (intOf i).toNat)
  case atStart => exact ⟨0, Nat.zero_le _, rfl, rfl, rfl⟩
  case round =>
    obtain ⟨k, hk, rfl, rfl, rfl⟩ := hrel
    by_cases hlt : k < L.length
    · obtain ⟨ad, A1, c1, rfl, q1, hc1, hr1⟩ := HL.out.at_ hlt
      have e1 := sumLen_take hlt
      have e2 := sumLen_le L (k + 1)
      obtain ⟨m, hm⟩ : ∃ m, sumLen (L.take k) = m := ⟨_, rfl⟩
      rw [hm] at e1 ⊢
      have w1 : IntKind.wrap .i64 ((m : Int) + (L[k].length : Int)) = (m : Int) + (L[k].length : Int) := IntWalk.i64_in _ (by omega)
      have g1 : ((m : Int) + (L[k].length : Int) < 0) = False := eq_false (by omega)
      go_wp2
      go_roundw
      case rel => exact ⟨k + 1, by omega, by go_num, by rw [e1]; simp⟩
      case measure => simp [intOf]; omega
    · have hk2 : k = L.length := by omega
      subst hk2
      rw [List.take_length]
      have h3' : ((sumLen L : Nat) : Int) = 0 := by omega
      rw [h3']
      go_wp2_with (go_at_call 48; refine (grow_zero _).mono ?_; rintro e w1 ⟨rfl, rfl⟩)
      go_loopw [6, 27] (fun v i wr => ∃ k A1 c1, k ≤ L.length ∧ i = .int .i64 (k : Nat) ∧ v = .slice A1 (sumLen (L.take k)) c1 ∧ Sealed (wr.ownsRow w1.heap.size 5 1 v (sumLen (L.take k)) (bv (L.take k).flatten)) ∧ Below w1.heap.size w1 wr) (fun _ i _ => L.length - (intOf i).toNat)
      case atStart => exact ⟨0, none, 0, Nat.zero_le _, rfl, rfl, ⟨World.ownsRow_nil _ _ _ _⟩, Below.refl _ _⟩
      case round =>
        obtain ⟨k, A1, c1, hk, rfl, rfl, hown, hbr⟩ := hrel
        by_cases hlt : k < L.length
        · obtain ⟨ad, A2, c2, rfl, q1, hc2, hr2⟩ := (HL.out.below hbr).at_ hlt
          have e1 := sumLen_take hlt
          have e2 := sumLen_le L (k + 1)
          have e3 : bv (L.take (k + 1)).flatten = bv (L.take k).flatten ++ bv L[k] := by rw [List.take_succ_eq_append_getElem hlt, List.flatten_append, bv_append]; simp only [List.flatten_cons, List.flatten_nil, List.append_nil]
          have E1 := Sealed.mk e1
          have E3 := Sealed.mk e3
          have hm : sumLen (L.take k) + L[k].length ≤ 1000000 := by omega
          clear e1 e2 e3
          go_wp2_with (at_builtin; refine wpList_append_any _ rfl (.tmp 31) (.tmp 32) _ rfl w1.heap.size 5 _ 1 1 Try.underlying25 u8_info rfl (by omega) (.slice A1 (sumLen (L.take k)) c1) (sumLen (L.take k)) _ rfl hown.out Anywhere _ L[k].length c2 (bv L[k]) rfl hr2 ?h1 ?h2 ?h3 ?h4 ?_; (case h1 => exact bv_one _); (case h2 => simp only [maxLen]; omega); (case h3 => omega); (case h4 => exact hbr.size); intro A5 c5 w5 hc5 ho5 hg5 hat5; have hb5 : Below w1.heap.size w1 w5 := hbr.grown hg5 hbr.size (own_base hown.out))
          go_roundw
          case rel => exact ⟨k + 1, A5, c5, by omega, by go_num, by rw [E1.out], by rw [E1.out, E3.out]; exact ⟨ho5⟩, hb5⟩
          case measure => simp [intOf]; omega
        · obtain rfl : k = L.length := by omega
          rw [List.take_length] at hown
          go_wp2
          go_ret
          have ho := hown.out
          refine ⟨_, _, by rw [List.take_length]; rfl, ?_, by simpa using ho, hbr⟩
          obtain ⟨A', c', he, hc'⟩ := own_slice ho
          injection he with e4 e5 e6
          omega
theorem concat_any (w : World) (A : Option Addr) (c : Nat) (L : List (List UInt8)) (hL : Rd2 w Anywhere A L) (h1 : L.length ≤ 1000) (h2 : sumLen L ≤ 1000000) :
    Calls Try.prog 45 #[.slice A L.length c] w (Made w 5 1 (sumLen L) (bv L.flatten)) := by
  rcases Nat.eq_zero_or_pos (sumLen L) with h | h
  · exact concat_zero w A c L hL h1 h2 h
  · exact concat w A c L hL h1 h2 h
end Go.Proofs.Ytkpabmhijpnchaa

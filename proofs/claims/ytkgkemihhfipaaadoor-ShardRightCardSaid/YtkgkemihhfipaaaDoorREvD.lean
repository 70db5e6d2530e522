/- Packed by pack.py (this session's own program): texts of the kit's printer and of my own, what is not used struck. -/
import Derived.Test.YtkgkemihhfipaaaDoorREvC
import Derived.Test.YtkgkemihhfipaaaDoorRStubD
set_option linter.unusedVariables false
set_option linter.unusedSimpArgs false
set_option linter.unusedSectionVars false
namespace Go.Proofs.YtkgkemihhfipaaaDoor.HK
open Go.RowKit Go.Proofs.YtkgkemihhfipaaaDoorW.PrintWords Go.Proofs.YtkgkemihhfipaaaDoorW.PrintLast Go.Proofs.YtkgkemihhfipaaaDoorW.PrintMore
def fB (n : Int) (s : ByteArray) : Bool := match defO n with | some d => rightD d s | none => false
theorem fB_ev (n : Int) (s : ByteArray) (hs : s.size ≤ 400) {k : Nat} (hk : 1000 ≤ k) : field_Right.f k n s = some (fB n s) := by
  obtain ⟨d, hd, _⟩ := defO_some n
  rw [ffright_ev n s hs hd hk]
  unfold fB
  rw [hd]
theorem rB_ev (n : Int) (s : ByteArray) (hs : s.size ≤ 400) {k : Nat} (hk : 1000 ≤ k) : paydeskref03_Right.f k n s = some (fB n s) := by
  obtain ⟨d, hd, _⟩ := defO_some n
  rw [fright_ev n s hs hd hk]
  unfold fB
  rw [hd]
def knownB (t : ByteArray) : Bool := decide (t.toList = [48, 49, 48, 48]) || (decide (t.toList = [48, 49, 49, 48]) || (decide (t.toList = [48, 52, 48, 48]) || (decide (t.toList = [48, 52, 49, 48]) || (decide (t.toList = [48, 52, 50, 48]) || (decide (t.toList = [48, 52, 50, 49]) || decide (t.toList = [48, 52, 51, 48]))))))
theorem known_ev (t : ByteArray) : message_known.f t = some (knownB t) := by
  unfold message_known.f knownB
  repeat' split
  all_goals simp_all
def itemsOk : Int → List S114 → Bool
  | _, [] => true
  | last, x :: r => decide (last < x.f0) && (fB x.f0 x.f1 && itemsOk x.f0 r)
theorem msg_l0 (t : ByteArray) (L : List S114) (hL : ∀ x ∈ L, x.f1.size ≤ 400) (hn : L.length ≤ 1000) (L0 : List S114) : ∀ (d i k : Nat) (last : Int), i + d = L.length → d + 1001 ≤ k →
    message_Right.l0 k last L (L.length : Int) (i : Int) t L0 = some (itemsOk last (L.drop i) && (knownB t && decide (0 < L0.length))) := by
  intro d
  induction d with
  | zero =>
    intro i k last hi hk
    obtain ⟨k, rfl⟩ : ∃ m, k = m + 1 := ⟨k - 1, by omega⟩
    simp only [message_Right.l0]
    rw [if_neg (by omega), List.drop_eq_nil_of_le (by omega), known_ev, Option.bind_some]
    unfold itemsOk
    rw [Bool.true_and]
    cases knownB t with
    | false => rfl
    | true =>
      rw [if_pos rfl, Bool.true_and]
      congr 1
      rw [decide_eq_decide]
      omega
  | succ d ih =>
    intro i k last hi hk
    obtain ⟨k, rfl⟩ : ∃ m, k = m + 1 := ⟨k - 1, by omega⟩
    have hlt : i < L.length := by omega
    have hr : rd_T114 L (i : Int) = L[i] := by
      unfold rd_T114
      rw [Int.toNat_natCast, List.getD_eq_getElem?_getD, List.getElem?_eq_getElem hlt]
      rfl
    simp only [message_Right.l0]
    rw [if_pos (by omega), if_pos (by omega), if_pos (by omega), hr, List.drop_eq_getElem_cons hlt]
    have hx := hL L[i] (List.getElem_mem hlt)
    obtain ⟨x, hxe⟩ : ∃ x, L[i] = x := ⟨_, rfl⟩
    rw [hxe] at hx ⊢
    show _ = some ((decide (last < x.f0) && (fB x.f0 x.f1 && itemsOk x.f0 (L.drop (i + 1)))) && _)
    by_cases h1 : x.f0 ≤ last
    · rw [if_pos h1, decide_eq_false (by omega)]; rfl
    · rw [if_neg h1, decide_eq_true (by omega), fB_ev _ _ hx (by omega), Option.bind_some, Bool.true_and]
      cases fB x.f0 x.f1 with
      | false => rfl
      | true =>
        rw [if_pos rfl, Bool.true_and, wrap_in (by omega) (by omega)]
        exact ih (i + 1) k x.f0 (by omega) (by omega)
theorem msg_ev (t : ByteArray) (L : List S114) (hL : ∀ x ∈ L, x.f1.size ≤ 400) (hn : L.length ≤ 1000) {k : Nat} (hk : L.length + 1001 ≤ k) : message_Right.f k t L = some (itemsOk 0 L && (knownB t && decide (0 < L.length))) := by
  unfold message_Right.f
  have h := msg_l0 t L hL hn L L.length 0 k 0 (by omega) hk
  rw [List.drop_zero] at h
  exact h
theorem fB_put (n : Int) (d1 sz : Int) (m : Nat) (hd : defO n = some (d1, 1, sz, true)) (hm : (m : Int) = sz) (h1 : 1 ≤ m) (v : Nat) : fB n (putS v m) = true := by
  unfold fB
  rw [hd]
  show rightD (d1, 1, sz, true) (putS v m) = true
  unfold rightD
  have hz := putS_size v m
  have hs : signB 1 (putS v m) = true := by
    unfold signB
    show (putS v m).data.toList.all dig = true
    exact putS_dig v m
  show (true && (decide (0 < (putS v m).size) && (decide (((putS v m).size : Int) ≤ sz) && ((!decide ((1 : Int) < 3) || decide (sz ≤ ((putS v m).size : Int))) && signB 1 (putS v m))))) = true
  rw [hz, hs, decide_eq_true (show 0 < m by omega), decide_eq_true (show (m : Int) ≤ sz by omega), decide_eq_true (show sz ≤ (m : Int) by omega)]
  simp
theorem fB_empty (n : Int) : fB n ⟨#[]⟩ = false := by
  obtain ⟨d, hd, _⟩ := defO_some n
  unfold fB
  rw [hd]
  show rightD d ⟨#[]⟩ = false
  unfold rightD
  have : decide (0 < (⟨#[]⟩ : ByteArray).size) = false := rfl
  rw [this]
  simp
def putO (v n : Nat) : ByteArray := if v / 10 ^ n > 0 then ⟨#[]⟩ else putS v n
theorem putO_ev (v n k : Nat) (hv : v < 18446744073709551616) (h1 : 1 ≤ n) (h2 : n ≤ 19) (hk : n + 1 < k) : ∃ e, digit_Put.f k (v : Int) (n : Int) = some (putO v n, e) := by
  rw [put_ev v n k hv h1 h2 hk]
  unfold putO
  by_cases h : v / 10 ^ n > 0
  · exact ⟨10, by rw [if_pos h, if_pos h]⟩
  · exact ⟨0, by rw [if_neg h, if_neg h]⟩
theorem putO_size (v n : Nat) (hn : n ≤ 19) : (putO v n).size ≤ 19 := by
  unfold putO
  split
  · show (0 : Nat) ≤ 19; omega
  · rw [putS_size]; exact hn
theorem fB_putO (n : Int) (d1 sz : Int) (m : Nat) (hd : defO n = some (d1, 1, sz, true)) (hm : (m : Int) = sz) (h1 : 1 ≤ m) (v : Nat) : fB n (putO v m) = decide (v < 10 ^ m) := by
  unfold putO
  by_cases h : v / 10 ^ m > 0
  · have h2 : ¬ v < 10 ^ m := fun hlt => by rw [Nat.div_eq_of_lt hlt] at h; omega
    rw [if_pos h, fB_empty, decide_eq_false h2]
  · have hp : 0 < 10 ^ m := Nat.pow_pos (by omega)
    have h2 : v < 10 ^ m := by
      rcases Nat.lt_or_ge v (10 ^ m) with h3 | h3
      · exact h3
      · exact absurd (Nat.div_pos h3 hp) h
    rw [if_neg h, fB_put n d1 sz m hd hm h1 v, decide_eq_true h2]
end Go.Proofs.YtkgkemihhfipaaaDoor.HK

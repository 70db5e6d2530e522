/- Packed by pack.py (this session's own program): texts of the kit's printer and of my own, what is not used struck. -/
import Derived.Test.YtkgkemihhfipaaaDoorREvB
import Derived.Test.YtkgkemihhfipaaaDoorRHKx7
import Derived.Test.YtkgkemihhfipaaaDoorRStubB
set_option linter.unusedVariables false
set_option linter.unusedSimpArgs false
set_option linter.unusedSectionVars false
namespace Go.Proofs.YtkgkemihhfipaaaDoor.HK
open Go.RowKit Go.Proofs.YtkgkemihhfipaaaDoorW.PrintWords Go.Proofs.YtkgkemihhfipaaaDoorW.PrintLast Go.Proofs.YtkgkemihhfipaaaDoorW.PrintMore
variable [field_Right.Has]
def decD (v : Nat) : Nat → List Nat
  | 0 => []
  | m + 1 => decD (v / 10) m ++ [48 + v % 10]
theorem decD_length : ∀ (m v : Nat), (decD v m).length = m
  | 0, _ => rfl
  | m + 1, v => by unfold decD; rw [List.length_append, decD_length m]; rfl
theorem decD_dig : ∀ (m v : Nat), ∀ x ∈ decD v m, 48 ≤ x ∧ x ≤ 57
  | 0, _, x, h => by simp [decD] at h
  | m + 1, v, x, h => by
    unfold decD at h
    rw [List.mem_append] at h
    rcases h with h | h
    · exact decD_dig m _ x h
    · simp only [List.mem_singleton] at h
      omega
def ints (l : List Nat) : List Int := l.map Int.ofNat
theorem put_l0 : ∀ (m v k : Nat) (ys : List Int), v < 18446744073709551616 → m ≤ 19 → m < k → digit_Put.l0 k (v : Int) (List.replicate m 0 ++ ys) ((m : Int) - 1) = if v / 10 ^ m > 0 then some (⟨#[]⟩, 10) else some (strOfNums (ints (decD v m) ++ ys), 0) := by
  intro m
  induction m with
  | zero =>
    intro v k ys hv hm hk
    obtain ⟨k, rfl⟩ : ∃ j, k = j + 1 := ⟨k - 1, by omega⟩
    simp only [digit_Put.l0]
    rw [if_neg (by omega)]
    by_cases h : v > 0
    · rw [if_pos (by omega), if_pos (by simpa using h)]
    · rw [if_neg (by omega), if_neg (by simpa using h)]
      simp [ints, decD]
  | succ m ih =>
    intro v k ys hv hm hk
    obtain ⟨k, rfl⟩ : ∃ j, k = j + 1 := ⟨k - 1, by omega⟩
    have e0 : ((m + 1 : Nat) : Int) - 1 = (m : Int) := by omega
    rw [e0]
    simp only [digit_Put.l0]
    have hl : (List.replicate (m + 1) (0 : Int) ++ ys).length = m + 1 + ys.length := by simp
    rw [if_pos (show (m : Int) ≥ 0 by omega), if_pos (show (0 : Int) ≤ (m : Int) by omega), if_pos (by rw [hl]; omega)]
    have e1 : IntKind.u64.wrap (Int.tdiv (v : Int) 10) = ((v / 10 : Nat) : Int) := by
      rw [Int.tdiv_eq_ediv_of_nonneg (by omega)]
      have : IntKind.u64.wrap ((v : Int) / 10) = (v : Int) / 10 := IntWalk.u64_in _ (by omega)
      rw [this]; omega
    have e2 : (48 + ((Int.tmod (v : Int) 10) % 256)) % 256 = ((48 + v % 10 : Nat) : Int) := by
      rw [Int.tmod_eq_emod_of_nonneg (by omega)]
      omega
    have e3 : (List.replicate (m + 1) (0 : Int) ++ ys).set ((m : Int)).toNat ((48 + v % 10 : Nat) : Int) = List.replicate m 0 ++ (((48 + v % 10 : Nat) : Int) :: ys) := by
      rw [Int.toNat_natCast, List.replicate_succ', List.append_assoc, List.set_append_right _ _ (by simp)]
      simp
    have e4 : wrap64 ((m : Int) - 1) = (m : Int) - 1 := wrap_in (by omega) (by omega)
    rw [e1, e2, e3, e4, ih (v / 10) k _ (by omega) (by omega) (by omega)]
    have e5 : v / 10 / 10 ^ m = v / 10 ^ (m + 1) := by rw [Nat.div_div_eq_div_mul, Nat.pow_succ, Nat.mul_comm]
    rw [e5]
    have e6 : ints (decD (v / 10) m) ++ ((48 + v % 10 : Nat) : Int) :: ys = ints (decD v (m + 1)) ++ ys := by
      show _ = ints (decD (v / 10) m ++ [48 + v % 10]) ++ ys
      unfold ints
      rw [List.map_append]
      simp
    rw [e6]
def putS (v n : Nat) : ByteArray := strOfNums (ints (decD v n))
theorem put_ev (v n k : Nat) (hv : v < 18446744073709551616) (h1 : 1 ≤ n) (h2 : n ≤ 19) (hk : n + 1 < k) : digit_Put.f k (v : Int) (n : Int) = if v / 10 ^ n > 0 then some (⟨#[]⟩, 10) else some (putS v n, 0) := by
  obtain ⟨k, rfl⟩ : ∃ j, k = j + 1 := ⟨k - 1, by omega⟩
  unfold digit_Put.f
  rw [if_neg (by omega), decide_eq_false (by omega)]
  simp only [digit_Put.j0]
  rw [if_neg (by simp), if_pos (by omega), if_pos (by omega), Int.toNat_natCast]
  have h := put_l0 n v k [] hv h2 (by omega)
  rw [List.append_nil, List.append_nil] at h
  have e : wrap64 ((n : Int) - 1) = (n : Int) - 1 := wrap_in (by omega) (by omega)
  rw [e]
  exact h
theorem putS_size (v n : Nat) : (putS v n).size = n := by
  show (List.map _ (ints (decD v n))).toArray.size = n
  simp [ints, decD_length]
theorem putS_data (v n : Nat) : (putS v n).data.toList = (decD v n).map fun x => UInt8.ofNat x := by
  show (List.map _ (ints (decD v n))).toArray.toList = _
  simp [ints]
theorem putS_dig (v n : Nat) : (putS v n).data.toList.all dig = true := by
  rw [putS_data, List.all_map, List.all_eq_true]
  intro x hx
  have h := decD_dig n v x hx
  show dig (UInt8.ofNat x) = true
  unfold dig
  rw [UInt8.toNat_ofNat']
  rw [decide_eq_true (by omega), decide_eq_true (by omega)]
  rfl
end Go.Proofs.YtkgkemihhfipaaaDoor.HK

/- Packed by pack.py (this session's own program): texts of the kit's printer and of my own, what is not used struck. -/
import Derived.Test.YtkgkemihhfipaaaDoorREvG
import Derived.Test.YtkgkemihhfipaaaDoorRMemA
set_option linter.unusedVariables false
set_option linter.unusedSimpArgs false
set_option linter.unusedSectionVars false
namespace Go.Proofs.YtkgkemihhfipaaaDoor
open Go.RowKit
theorem fm_length {α : Type} (f : α → List Value) (K : Nat) (hf : ∀ x, (f x).length = K) : ∀ l : List α, (l.flatMap f).length = l.length * K
  | [] => by simp
  | x :: r => by rw [List.flatMap_cons, List.length_append, hf, fm_length f K hf r, List.length_cons, Nat.add_mul]; omega
theorem fm_get {α : Type} (f : α → List Value) (K : Nat) (hf : ∀ x, (f x).length = K) : ∀ (l : List α) (j i : Nat), i < K → (l.flatMap f)[j * K + i]? = l[j]?.bind fun x => (f x)[i]?
  | [], j, i, hi => by simp
  | x :: r, 0, i, hi => by
    rw [List.flatMap_cons, Nat.zero_mul, Nat.zero_add, List.getElem?_append_left (by rw [hf]; exact hi)]
    rfl
  | x :: r, j + 1, i, hi => by
    rw [List.flatMap_cons, List.getElem?_append_right (by rw [hf, Nat.add_mul]; omega), hf, show (j + 1) * K + i - K = j * K + i by rw [Nat.add_mul]; omega, fm_get f K hf r j i hi]
    rfl
theorem fm_take {α : Type} (f : α → List Value) (K : Nat) (hf : ∀ x, (f x).length = K) : ∀ (l : List α) (i : Nat), (l.flatMap f).take (i * K) = (l.take i).flatMap f
  | [], i => by simp
  | x :: r, 0 => by simp
  | x :: r, i + 1 => by
    rw [List.flatMap_cons, List.take_succ_cons, List.flatMap_cons, List.take_append, hf, List.take_of_length_le (by rw [hf, Nat.add_mul]; omega), show (i + 1) * K - K = i * K by rw [Nat.add_mul]; omega, fm_take f K hf r i]
theorem fm_drop {α : Type} (f : α → List Value) (K : Nat) (hf : ∀ x, (f x).length = K) : ∀ (l : List α) (i : Nat), (l.flatMap f).drop (i * K) = (l.drop i).flatMap f
  | [], i => by simp
  | x :: r, 0 => by simp
  | x :: r, i + 1 => by
    rw [List.flatMap_cons, List.drop_succ_cons, List.drop_append, hf, List.drop_eq_nil_of_le (by rw [hf, Nat.add_mul]; omega), List.nil_append, show (i + 1) * K - K = i * K by rw [Nat.add_mul]; omega, fm_drop f K hf r i]
namespace HK
open Go.Proofs.YtkgkemihhfipaaaDoorW.PrintWords Go.Proofs.YtkgkemihhfipaaaDoorW.PrintLast Go.Proofs.YtkgkemihhfipaaaDoorW.PrintMore
def cE (x : EE) : List Value := [.int .u32 x.f0.f0, .string x.f0.f1, .int .i64 x.f1, .string x.f2, .int .u64 x.f3, .string x.f4, .int .i64 x.f5, .int .i64 x.f6]
def evs (l : List EE) : List Value := l.flatMap cE
theorem cE_len (x : EE) : (cE x).length = 8 := rfl
theorem evs_len (l : List EE) : (evs l).length = l.length * 8 := fm_length cE 8 cE_len l
theorem evs_take (l : List EE) (i : Nat) : (evs l).take (i * 8) = evs (l.take i) := fm_take cE 8 cE_len l i
theorem evs_drop (l : List EE) (i : Nat) : (evs l).drop (i * 8) = evs (l.drop i) := fm_drop cE 8 cE_len l i
theorem evs_append (a b : List EE) : evs (a ++ b) = evs a ++ evs b := List.flatMap_append ..
theorem evs_one (l : List EE) : ∀ u ∈ evs l, u.oneCell' = true := by
  intro u hu
  obtain ⟨x, _, hx⟩ := List.mem_flatMap.1 hu
  simp only [cE, List.mem_cons, List.not_mem_nil, or_false] at hx
  rcases hx with rfl | rfl | rfl | rfl | rfl | rfl | rfl | rfl <;> rfl
theorem evs_get (l : List EE) (j i : Nat) (hi : i < 8) : (evs l)[j * 8 + i]? = l[j]?.bind fun x => (cE x)[i]? := fm_get cE 8 cE_len l j i hi
theorem rd_of_C {w : World} {A : Option Addr} {l : List EE} (h : Kd.C k28 w A l.length l) : Rd w Anywhere 8 A l.length (evs l) := by
  refine ⟨evs_len l, fun hn => ?_⟩
  obtain ⟨ad, rfl, hc⟩ := h.2.2 hn
  refine ⟨ad, rfl, trivial, fun q u hu => ?_⟩
  have hq : q = q / 8 * 8 + q % 8 := by omega
  rw [hq, evs_get l (q / 8) (q % 8) (Nat.mod_lt _ (by omega))] at hu
  cases hj : l[q / 8]? with
  | none => rw [hj] at hu; simp at hu
  | some p =>
    rw [hj] at hu
    obtain ⟨c, _, hk, hcell⟩ := hc (q / 8) p hj
    have hce : c = cE p := k28_open hk
    rw [hq]
    exact hcell (q % 8) u (by rw [hce]; exact hu)
theorem C_of_rd {w : World} {S : Nat → Prop} {A : Option Addr} {l : List EE} (h : Rd w S 8 A l.length (evs l)) (hn : l.length ≤ 9223372036854775807) : Kd.C k28 w A l.length l := by
  refine ⟨rfl, hn, fun h0 => ?_⟩
  obtain ⟨ad, rfl, _, hc⟩ := h.2 h0
  refine ⟨ad, rfl, fun j p hj => ⟨cE p, rfl, k28_mk w p, fun i u hu => ?_⟩⟩
  have hi : i < 8 := by
    rcases Nat.lt_or_ge i 8 with h | h
    · exact h
    · rw [List.getElem?_eq_none (by rw [cE_len]; exact h)] at hu
      cases hu
  refine hc (j * 8 + i) u ?_
  rw [evs_get l j i hi, hj]
  exact hu
end HK
end Go.Proofs.YtkgkemihhfipaaaDoor

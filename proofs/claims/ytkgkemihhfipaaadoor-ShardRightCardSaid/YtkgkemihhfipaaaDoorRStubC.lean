/- Packed by pack.py (this session's own program): texts of the kit's printer and of my own, what is not used struck. -/
import Derived.Test.YtkgkemihhfipaaaDoorREvB
import Derived.Test.YtkgkemihhfipaaaDoorRStubA
import Derived.Laws.RangeAny
import Derived.OrdersHeld
set_option linter.unusedVariables false
set_option linter.unusedSimpArgs false
set_option linter.unusedSectionVars false
namespace Go.Proofs.YtkgkemihhfipaaaDoor.HK
open Go.RowKit Go.Proofs.YtkgkemihhfipaaaDoorW.PrintWords Go.Proofs.YtkgkemihhfipaaaDoorW.PrintLast Go.Proofs.YtkgkemihhfipaaaDoorW.PrintMore
variable [paydeskref07_Order.Has]
theorem below1 (w : World) (x : Obj) : Below w.heap.size w (w.alloc x) := (Below.refl _ _).alloc (Nat.le_refl _) _
def looseV (k sz : Int) : Value := .iface 125 (.agg #[.int .i64 k, .int .i64 sz])
def fixedV (sz : Int) : Value := .iface 127 (.agg #[.int .i64 sz])
set_option maxHeartbeats 4000000 in
theorem formOf_loose (f kd sz : Int) (h : kd = 3 ∨ kd = 4) (w : World) : Calls Tryd.prog 68 #[.agg #[.int .i64 f, .int .i64 kd, .int .i64 sz]] w fun e w' => e = .returned (looseV 2 sz) ∧ Below w.heap.size w w' := by
  rcases h with rfl | rfl
  all_goals
    go_enter Tryd.func68, Tryd.ntmps68
    go_wp2
    go_ret
    exact ⟨rfl, below1 _ _⟩
set_option maxHeartbeats 4000000 in
theorem formOf_vast (f sz : Int) (w : World) : Calls Tryd.prog 68 #[.agg #[.int .i64 f, .int .i64 5, .int .i64 sz]] w fun e w' => e = .returned (looseV 3 sz) ∧ Below w.heap.size w w' := by
  go_enter Tryd.func68, Tryd.ntmps68
  go_wp2
  go_ret
  exact ⟨rfl, below1 _ _⟩
set_option maxHeartbeats 4000000 in
theorem formOf_fixed (f kd sz : Int) (h : kd = 1 ∨ kd = 2) (w : World) : Calls Tryd.prog 68 #[.agg #[.int .i64 f, .int .i64 kd, .int .i64 sz]] w fun e w' => e = .returned (fixedV sz) ∧ Below w.heap.size w w' := by
  rcases h with rfl | rfl
  all_goals
    go_enter Tryd.func68, Tryd.ntmps68
    go_wp2
    go_ret
    exact ⟨rfl, below1 _ _⟩
set_option maxHeartbeats 4000000 in
theorem sized_loose (k sz n : Int) (r : Bool) (hr : (decide (1 ≤ n) && decide (n ≤ sz)) = r) (w : World) : Calls Tryd.prog 112 #[.agg #[.int .i64 k, .int .i64 sz], .int .i64 n] w fun e w' => e = .returned (.bool r) ∧ Below w.heap.size w w' := by
  by_cases h1 : 1 ≤ n
  · rw [decide_eq_true h1, Bool.true_and] at hr
    have g1 : decide (1 ≤ n) = true := by simp [h1]
    have HR := Sealed0.mk hr
    clear h1 hr
    go_enter Tryd.func112, Tryd.ntmps112
    go_wp2
    go_ret
    exact ⟨by rw [← HR.out]; rfl, below1 _ _⟩
  · rw [decide_eq_false h1, Bool.false_and] at hr
    subst hr
    have g1 : decide (1 ≤ n) = false := by simpa using h1
    clear h1
    go_enter Tryd.func112, Tryd.ntmps112
    go_wp2
    go_ret
    exact ⟨rfl, below1 _ _⟩
set_option maxHeartbeats 4000000 in
theorem sized_fixed (sz n : Int) (r : Bool) (hr : (n == sz) = r) (w : World) : Calls Tryd.prog 114 #[.agg #[.int .i64 sz], .int .i64 n] w fun e w' => e = .returned (.bool r) ∧ Below w.heap.size w w' := by
  have HR := Sealed0.mk hr
  clear hr
  go_enter Tryd.func114, Tryd.ntmps114
  go_wp2
  go_ret
  exact ⟨by rw [← HR.out]; rfl, below1 _ _⟩
set_option maxHeartbeats 4000000 in
theorem signs_dig (f kd sz : Int) (h : kd = 1 ∨ kd = 3) (s : ByteArray) (hs : s.size ≤ 400) (w : World) : Calls Tryd.prog 69 #[.agg #[.int .i64 f, .int .i64 kd, .int .i64 sz], .string s] w fun e w' => e = .returned (.bool (isB s)) ∧ Below w.heap.size w w' := by
  rcases h with rfl | rfl
  all_goals
    go_enter Tryd.func69, Tryd.ntmps69
    go_wp2_with fail
    refine (digIs s hs _).mono ?_
    rintro e w' ⟨rfl, rfl⟩
    go_wp2_with fail
    go_ret
    exact ⟨rfl, below1 _ _⟩
def prnAll (s : ByteArray) : Bool := s.data.toList.all prn
set_option maxHeartbeats 4000000 in
theorem signs_txt (f kd sz : Int) (h1 : kd ≠ 1) (h3 : kd ≠ 3) (s : ByteArray) (hs : s.size ≤ 400) (w : World) : Calls Tryd.prog 69 #[.agg #[.int .i64 f, .int .i64 kd, .int .i64 sz], .string s] w fun e w' => e = .returned (.bool (prnAll s)) ∧ Below w.heap.size w w' := by
  have g1 : (kd == 1) = false := by simp [h1]
  have g3 : (kd == 3) = false := by simp [h3]
  clear h1 h3
  go_enter Tryd.func69, Tryd.ntmps69
  go_wp2_with fail
  obtain ⟨w1, hw1⟩ : ∃ w1, w1 = w.alloc (.cells #[.int .i64 f, .int .i64 kd, .int .i64 sz] 101) := ⟨_, rfl⟩
  have hb1 : Below w.heap.size w w1 := by rw [hw1]; exact below1 _ _
  have hz1 : w.heap.size + 1 = w1.heap.size := by rw [hw1]; simp
  have HZ := Sealed0.mk hz1
  clear hz1
  rw [← hw1]
  clear hw1
  go_loopw [6] (fun _ wr => ∃ pos : Nat, pos ≤ s.size ∧ wr = w1.iter s pos ∧ Sealed0 ((s.data.toList.take pos).all prn = true)) (fun _ wr => s.size - wr.iterPos w1.heap.size)
  case atStart => exact ⟨0, Nat.zero_le _, rfl, ⟨rfl⟩⟩
  case round =>
    obtain ⟨pos, hp, rfl, hall⟩ := hrel
    have hbi : ∀ q, Below w.heap.size w (w1.iter s q) := fun q => hb1.trans ((Below.refl _ _).alloc (Nat.le_refl _) _ |>.mono hb1.size)
    by_cases hlt : pos < s.size
    · obtain ⟨c, hc⟩ : ∃ c, s[pos] = c := ⟨_, rfl⟩
      have hc' : s.data.toList[pos]'(by rw [Array.length_toList]; exact hlt) = c := hc
      have HC := Sealed0.mk hc'
      clear hc'
      by_cases hgood : 32 ≤ c.toNat ∧ c.toNat ≤ 126
      · have hd : Utf8.decode s pos = (c.toNat, 1) := by rw [← hc]; exact decode_ascii s pos hlt (by rw [hc]; omega)
        have hnx : ∀ ty, (Instr.next (.pointer (some ⟨w.heap.size + 1, 0, none⟩)) true ty).run Tryd.prog (w1.iter s pos) = .ok (.tuple #[.bool true, .int .i64 pos, .int .i32 (c.toNat : Int)]) (w1.iter s (pos + 1)) := fun ty => by
          have h := run_next_any (P := Tryd.prog) w1 s pos ty hlt
          rw [hd] at h
          rw [HZ.out]
          exact h
        have g4 : decide ((c.toNat : Int) < 32) = false := by simp; omega
        have g5 : decide (126 < (c.toNat : Int)) = false := by simp; omega
        clear hc hd
        go_wp2
        go_roundw
        case rel => exact ⟨pos + 1, by omega, rfl, ⟨by
          rw [List.take_succ_eq_append_getElem (by rw [Array.length_toList]; exact hlt), List.all_append, hall.out, List.all_cons, HC.out]
          unfold prn
          rw [decide_eq_true hgood.1, decide_eq_true hgood.2]
          rfl⟩⟩
        case measure => simp; omega
      · have hpr : prn c = false := by
          unfold prn
          by_cases h1 : 32 ≤ c.toNat
          · rw [decide_eq_false (show ¬ c.toNat ≤ 126 by omega), Bool.and_false]
          · rw [decide_eq_false h1]; rfl
        have hall0 : prnAll s = false := List.all_eq_false.2 ⟨_, List.getElem_mem (by rw [Array.length_toList]; exact hlt), by rw [HC.out, hpr]; simp⟩
        obtain ⟨rn, wd, hd, hrn⟩ : ∃ rn wd, Utf8.decode s pos = (rn, wd) ∧ (rn < 32 ∨ 126 < rn) := by
          by_cases ha : c.toNat < 128
          · exact ⟨c.toNat, 1, by rw [← hc]; exact decode_ascii s pos hlt (by rw [hc]; exact ha), by omega⟩
          · have h := decode_high s pos hlt (by rw [hc]; omega)
            exact ⟨(Utf8.decode s pos).1, (Utf8.decode s pos).2, rfl, .inr (by omega)⟩
        have hnx : ∀ ty, (Instr.next (.pointer (some ⟨w.heap.size + 1, 0, none⟩)) true ty).run Tryd.prog (w1.iter s pos) = .ok (.tuple #[.bool true, .int .i64 pos, .int .i32 (rn : Int)]) (w1.iter s (pos + wd)) := fun ty => by
          have h := run_next_any (P := Tryd.prog) w1 s pos ty hlt
          rw [hd] at h
          rw [HZ.out]
          exact h
        have HA := Sealed0.mk hall0
        clear hc hd hall0 hpr hgood
        rcases hrn with hrn | hrn
        · have g4 : decide ((rn : Int) < 32) = true := by simp; omega
          go_wp2
          go_ret
          exact ⟨by rw [HA.out]; rfl, hbi _⟩
        · have g4 : decide ((rn : Int) < 32) = false := by simp; omega
          have g5 : decide (126 < (rn : Int)) = true := by simp; omega
          go_wp2
          go_ret
          exact ⟨by rw [HA.out]; rfl, hbi _⟩
    · have hnx : ∀ ty, (Instr.next (.pointer (some ⟨w.heap.size + 1, 0, none⟩)) true ty).run Tryd.prog (w1.iter s pos) = .ok (.tuple #[.bool false]) (w1.iter s pos) := fun ty => by
        rw [HZ.out]
        exact run_next_end w1 s pos ty hlt
      have ha := hall.out
      rw [List.take_of_length_le (by rw [Array.length_toList]; show s.size ≤ pos; omega)] at ha
      have HA := Sealed0.mk (show prnAll s = true from ha)
      clear ha
      go_wp2
      go_ret
      exact ⟨by rw [HA.out]; rfl, hbi _⟩
end Go.Proofs.YtkgkemihhfipaaaDoor.HK

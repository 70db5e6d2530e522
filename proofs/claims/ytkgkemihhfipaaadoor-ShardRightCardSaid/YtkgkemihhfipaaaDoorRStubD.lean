/- Packed by pack.py (this session's own program): texts of the kit's printer and of my own, what is not used struck. -/
import Derived.Test.YtkgkemihhfipaaaDoorRStubC
set_option linter.unusedVariables false
set_option linter.unusedSimpArgs false
set_option linter.unusedSectionVars false
namespace Go.Proofs.YtkgkemihhfipaaaDoor.HK
open Go.RowKit Go.Proofs.YtkgkemihhfipaaaDoorW.PrintWords Go.Proofs.YtkgkemihhfipaaaDoorW.PrintLast Go.Proofs.YtkgkemihhfipaaaDoorW.PrintMore
variable [paydeskref07_Order.Has]
theorem cell3 {w1 w2 : World} {a b c : Value} {t : TypeId} (h : Below (w1.alloc (.cells #[a, b, c] t)).heap.size (w1.alloc (.cells #[a, b, c] t)) w2) : w2.cell? ⟨w1.heap.size, 0, none⟩ = some a ∧ w2.cell? ⟨w1.heap.size, 1, none⟩ = some b ∧ w2.cell? ⟨w1.heap.size, 2, none⟩ = some c :=
  ⟨(h.cell (p := ⟨w1.heap.size, 0, none⟩) (by simp)).trans (by simp), (h.cell (p := ⟨w1.heap.size, 1, none⟩) (by simp)).trans (by simp), (h.cell (p := ⟨w1.heap.size, 2, none⟩) (by simp)).trans (by simp)⟩
theorem method_loose (k sz : Int) (w : World) : (method 257 125 (.agg #[.int .i64 k, .int .i64 sz]) "paydesk/field.sized").run Tryd.prog w = .ok (112, .agg #[.int .i64 k, .int .i64 sz]) w := by kernel_rfl
theorem method_fixed (sz : Int) (w : World) : (method 257 127 (.agg #[.int .i64 sz]) "paydesk/field.sized").run Tryd.prog w = .ok (114, .agg #[.int .i64 sz]) w := by kernel_rfl
theorem rightD_loose (d1 kd sz : Int) (s : ByteArray) (h : kd = 3 ∨ kd = 4 ∨ kd = 5) : rightD (d1, kd, sz, true) s = ((decide (1 ≤ (s.size : Int)) && decide ((s.size : Int) ≤ sz)) && signB kd s) := by
  unfold rightD
  show (true && (decide (0 < s.size) && (decide ((s.size : Int) ≤ sz) && ((!decide (kd < 3) || decide (sz ≤ (s.size : Int))) && signB kd s)))) = _
  rw [decide_eq_false (show ¬ kd < 3 by omega)]
  have : decide (0 < s.size) = decide (1 ≤ (s.size : Int)) := by rw [decide_eq_decide]; omega
  rw [this]
  cases decide (1 ≤ (s.size : Int)) <;> cases decide ((s.size : Int) ≤ sz) <;> simp
theorem rightD_fixed (d1 kd sz : Int) (s : ByteArray) (h : kd = 1 ∨ kd = 2) (hz : 1 ≤ sz) : rightD (d1, kd, sz, true) s = (((s.size : Int) == sz) && signB kd s) := by
  unfold rightD
  show (true && (decide (0 < s.size) && (decide ((s.size : Int) ≤ sz) && ((!decide (kd < 3) || decide (sz ≤ (s.size : Int))) && signB kd s)))) = _
  rw [decide_eq_true (show kd < 3 by omega)]
  by_cases he : (s.size : Int) = sz
  · rw [decide_eq_true (show 0 < s.size by omega), decide_eq_true (show (s.size : Int) ≤ sz by omega), decide_eq_true (show sz ≤ (s.size : Int) by omega)]
    simp [he]
  · have : ((s.size : Int) == sz) = false := by simp [he]
    rw [this]
    by_cases h2 : (s.size : Int) ≤ sz
    · rw [decide_eq_false (show ¬ sz ≤ (s.size : Int) by omega)]; simp
    · rw [decide_eq_false h2]; simp
theorem signB_dig (kd : Int) (h : kd = 1 ∨ kd = 3) (s : ByteArray) (hp : 0 < s.size) : signB kd s = isB s := by
  unfold signB isB
  have : digk kd = true := by unfold digk; rcases h with rfl | rfl <;> rfl
  rw [this, decide_eq_true hp, Bool.and_true]
  rfl
theorem signB_txt (kd : Int) (h1 : kd ≠ 1) (h3 : kd ≠ 3) (s : ByteArray) : signB kd s = prnAll s := by
  unfold signB prnAll
  have : digk kd = false := by unfold digk; rw [decide_eq_false h1, decide_eq_false h3]; rfl
  rw [this]
  rfl
theorem fsigns (f kd sz : Int) (s : ByteArray) (hp : 0 < s.size) (hs : s.size ≤ 400) (w : World) : Calls Tryd.prog 69 #[.agg #[.int .i64 f, .int .i64 kd, .int .i64 sz], .string s] w fun e w' => e = .returned (.bool (signB kd s)) ∧ Below w.heap.size w w' := by
  by_cases h : kd = 1 ∨ kd = 3
  · rw [signB_dig kd h s hp]; exact signs_dig f kd sz h s hs w
  · rw [signB_txt kd (fun e => h (.inl e)) (fun e => h (.inr e))]; exact signs_txt f kd sz (fun e => h (.inl e)) (fun e => h (.inr e)) s hs w
set_option maxRecDepth 100000 in
set_option maxHeartbeats 4000000 in
theorem fieldRight (n : Int) (s : ByteArray) (hs : s.size ≤ 400) (d1 kd sz : Int) (ok : Bool) (hd : defO n = some (d1, kd, sz, ok)) (hk : (ok = true ∧ 1 ≤ kd ∧ kd ≤ 5 ∧ 1 ≤ sz ∧ sz ≤ 999) ∨ ok = false) (w : World) :
    Calls Tryd.prog 46 #[.int .i64 n, .string s] w fun e w' => e = .returned (.bool (rightD (d1, kd, sz, ok) s)) ∧ Below w.heap.size w w' := by
  have hdef := def_ev n (k := 16) (by omega)
  rw [hd] at hdef
  have HD := Sealed0.mk hdef
  clear hd hdef
  cases ok with
  | false =>
    go_enter Tryd.func46, Tryd.ntmps46
    go_wp2_with fail
    refine (field_Def.calls 16 n d1 kd sz false _ HD.out).mono ?_
    rintro e w1 ⟨rfl, hb1⟩
    go_wp2_with fail
    go_ret
    exact ⟨rfl, hb1.trans ((below1 _ _).mono hb1.size)⟩
  | true =>
    obtain ⟨_, hk1, hk5, hz1, hz9⟩ : true = true ∧ 1 ≤ kd ∧ kd ≤ 5 ∧ 1 ≤ sz ∧ sz ≤ 999 := by rcases hk with h | h; exact h; cases h
    go_enter Tryd.func46, Tryd.ntmps46
    go_wp2_with fail
    refine (field_Def.calls 16 n d1 kd sz true _ HD.out).mono ?_
    rintro e w1 ⟨rfl, hb1⟩
    by_cases hl : kd = 3 ∨ kd = 4
    · go_wp2_with fail
      refine (formOf_loose d1 kd sz hl _).mono ?_
      rintro e w2 ⟨rfl, hb2⟩
      obtain ⟨c0, c1, c2⟩ := cell3 hb2
      unfold looseV
      have hm := fun k w => method_loose k sz w
      go_wp2_with fail
      cases hr : (decide (1 ≤ (s.size : Int)) && decide ((s.size : Int) ≤ sz)) with
      | false =>
        refine (sized_loose 2 sz (s.size : Int) false hr _).mono ?_
        rintro e w3 ⟨rfl, hb3⟩
        have HR := Sealed0.mk hr
        clear hm hr
        go_wp2_with fail
        go_ret
        exact ⟨by rw [rightD_loose d1 kd sz s (by omega), HR.out]; rfl, (hb1.trans ((below1 _ _).mono hb1.size)).trans ((hb2.trans (hb3.mono hb2.size)).mono (by have := hb1.size; simp; omega))⟩
      | true =>
        have hp : 0 < s.size := by have h := (Bool.and_eq_true_iff.1 hr).1; simp at h; omega
        refine (sized_loose 2 sz (s.size : Int) true hr _).mono ?_
        rintro e w3 ⟨rfl, hb3⟩
        obtain ⟨e0, e1, e2⟩ := cell3 (hb2.trans (hb3.mono hb2.size))
        have HR := Sealed0.mk hr
        clear hm hr c0 c1 c2
        go_wp2_with fail
        refine (fsigns d1 kd sz s hp hs _).mono ?_
        rintro e w4 ⟨rfl, hb4⟩
        go_wp2_with fail
        go_ret
        exact ⟨by rw [rightD_loose d1 kd sz s (by omega), HR.out, Bool.true_and]; rfl, (hb1.trans ((below1 _ _).mono hb1.size)).trans ((hb2.trans ((hb3.trans (hb4.mono hb3.size)).mono hb2.size)).mono (by have := hb1.size; simp; omega))⟩
    · by_cases hv : kd = 5
      · subst hv
        go_wp2_with fail
        refine (formOf_vast d1 sz _).mono ?_
        rintro e w2 ⟨rfl, hb2⟩
        obtain ⟨c0, c1, c2⟩ := cell3 hb2
        unfold looseV
        have hm := fun k w => method_loose k sz w
        go_wp2_with fail
        cases hr : (decide (1 ≤ (s.size : Int)) && decide ((s.size : Int) ≤ sz)) with
        | false =>
          refine (sized_loose 3 sz (s.size : Int) false hr _).mono ?_
          rintro e w3 ⟨rfl, hb3⟩
          have HR := Sealed0.mk hr
          clear hm hr
          go_wp2_with fail
          go_ret
          exact ⟨by rw [rightD_loose d1 5 sz s (by omega), HR.out]; rfl, (hb1.trans ((below1 _ _).mono hb1.size)).trans ((hb2.trans (hb3.mono hb2.size)).mono (by have := hb1.size; simp; omega))⟩
        | true =>
          have hp : 0 < s.size := by have h := (Bool.and_eq_true_iff.1 hr).1; simp at h; omega
          refine (sized_loose 3 sz (s.size : Int) true hr _).mono ?_
          rintro e w3 ⟨rfl, hb3⟩
          obtain ⟨e0, e1, e2⟩ := cell3 (hb2.trans (hb3.mono hb2.size))
          have HR := Sealed0.mk hr
          clear hm hr c0 c1 c2
          go_wp2_with fail
          refine (fsigns d1 5 sz s hp hs _).mono ?_
          rintro e w4 ⟨rfl, hb4⟩
          go_wp2_with fail
          go_ret
          exact ⟨by rw [rightD_loose d1 5 sz s (by omega), HR.out, Bool.true_and]; rfl, (hb1.trans ((below1 _ _).mono hb1.size)).trans ((hb2.trans ((hb3.trans (hb4.mono hb3.size)).mono hb2.size)).mono (by have := hb1.size; simp; omega))⟩
      · go_wp2_with fail
        refine (formOf_fixed d1 kd sz (by omega) _).mono ?_
        rintro e w2 ⟨rfl, hb2⟩
        obtain ⟨c0, c1, c2⟩ := cell3 hb2
        unfold fixedV
        have hm := fun w => method_fixed sz w
        go_wp2_with fail
        cases hr : ((s.size : Int) == sz) with
        | false =>
          refine (sized_fixed sz (s.size : Int) false hr _).mono ?_
          rintro e w3 ⟨rfl, hb3⟩
          have HR := Sealed0.mk hr
          clear hm hr
          go_wp2_with fail
          go_ret
          exact ⟨by rw [rightD_fixed d1 kd sz s (by omega) hz1, HR.out]; rfl, (hb1.trans ((below1 _ _).mono hb1.size)).trans ((hb2.trans (hb3.mono hb2.size)).mono (by have := hb1.size; simp; omega))⟩
        | true =>
          have hp : 0 < s.size := by rw [beq_iff_eq] at hr; omega
          refine (sized_fixed sz (s.size : Int) true hr _).mono ?_
          rintro e w3 ⟨rfl, hb3⟩
          obtain ⟨e0, e1, e2⟩ := cell3 (hb2.trans (hb3.mono hb2.size))
          have HR := Sealed0.mk hr
          clear hm hr c0 c1 c2
          go_wp2_with fail
          refine (fsigns d1 kd sz s hp hs _).mono ?_
          rintro e w4 ⟨rfl, hb4⟩
          go_wp2_with fail
          go_ret
          exact ⟨by rw [rightD_fixed d1 kd sz s (by omega) hz1, HR.out, Bool.true_and]; rfl, (hb1.trans ((below1 _ _).mono hb1.size)).trans ((hb2.trans ((hb3.trans (hb4.mono hb3.size)).mono hb2.size)).mono (by have := hb1.size; simp; omega))⟩
instance [digit_Fine.Has] : field_Right.Has where
  out := by
    intro k n s r w h
    obtain ⟨⟨d1, kd, sz, ok⟩, hd, hk⟩ := defO_some n
    obtain ⟨hs, rfl⟩ := ffright_is h hd
    exact fieldRight n s hs d1 kd sz ok hd hk w
end Go.Proofs.YtkgkemihhfipaaaDoor.HK

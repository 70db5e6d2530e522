/- Packed by pack.py (this session's own program): texts of the kit's printer and of my own, what is not used struck. -/
import Derived.Test.YtkgkemihhfipaaaDoorRAwakeW
set_option linter.unusedVariables false
set_option linter.unusedSimpArgs false
set_option linter.unusedSectionVars false
namespace Go.Proofs.YtkgkemihhfipaaaDoor.HK
open Go.RowKit Go.Proofs.YtkgkemihhfipaaaDoorW.PrintWords Go.Proofs.YtkgkemihhfipaaaDoorW.PrintLast Go.Proofs.YtkgkemihhfipaaaDoorW.PrintMore
structure Rg (e : EE) : Prop where
  s0 : 0 ≤ e.f0.f0
  s1 : e.f0.f0 < 4294967296
  a0 : 0 ≤ e.f3
  a1 : e.f3 < 18446744073709551616
theorem Rg.ok {e : EE} (h : Rg e) (hs : shortE e = true) : Ok e := by
  unfold shortE at hs
  simp only [Bool.and_eq_true, decide_eq_true_eq] at hs
  exact ⟨h.s0, h.s1, h.a0, h.a1, by omega, by omega, by omega⟩
theorem ref_short (A : Option Addr) (c : Nat) (l : List EE) (r : Bool) (hs : shortB l = r) (w : World) (hr : Kd.C k28 w A l.length l) (hc : l.length ≤ c) : Calls Tryd.prog 9 #[.slice A l.length c] w fun e w' => e = .returned (.bool r) ∧ Below w.heap.size w w' := by
  subst hs
  exact paydeskref10_Short.calls 1001 A c l _ w hr hc (short_ev l (Nat.le_refl _))
theorem ref_shortE (e : EE) (r : Bool) (hs : shortE e = r) (w : World) : Calls Tryd.prog 10 #[vE e] w fun e w' => e = .returned (.bool r) ∧ Below w.heap.size w w' := by
  subst hs
  exact paydeskref10_ShortEntry.calls _ _ _ _ _ _ _ _ _ w (shortEntry_ev e)
theorem ref_shortK (q : EK) (r : Bool) (hs : decide (q.f1.size ≤ 300) = r) (w : World) : Calls Tryd.prog 11 #[vK q] w fun e w' => e = .returned (.bool r) ∧ Below w.heap.size w w' := by
  subst hs
  refine paydeskref07_Short.calls _ _ _ w ?_
  unfold paydeskref07_Short.f
  congr 1
  rw [decide_eq_decide]
  omega
theorem ref_same (A A' : Option Addr) (c c' : Nat) (l : List EE) (w : World) (hr : Kd.C k28 w A l.length l) (hc : l.length ≤ c) (hr' : Kd.C k28 w A' l.length l) (hc' : l.length ≤ c') (hn : l.length ≤ 1000) : Calls Tryd.prog 16 #[.slice A l.length c, .slice A' l.length c'] w fun e w' => e = .returned (.bool true) ∧ Below w.heap.size w w' := by
  refine (paydeskref10_Same.calls 1001 A c l A' c' l true w hr hc hr' hc' (same_ev l hn (Nat.le_refl _))).mono ?_
  rintro e w' ⟨he, hd⟩
  exact ⟨he, hd.below⟩
theorem insB_len (l : List EE) (e : EE) : (insB l e).1.length ≤ l.length + 1 := by
  unfold insB
  split
  · split
    · simp
    · rename_i h
      split
      · simp
      · rw [show (pt l e).length = _ from len_put_none ordK_is l e h]; omega
  · simp
theorem swpB_len (l : List EE) (st : Int) (e : EE) : (swpB l st e).1.length ≤ l.length + 1 := by
  unfold swpB
  split
  · rename_i h0
    split
    · simp
    · rename_i y h
      split
      · rw [show (pt l e).length = _ from len_put_some ordK_is l e y (shardB_inc h0.1).1 h]; omega
      · simp
  · simp
theorem del_len : ∀ (l : List EE) (k : EK), (dl l k).length ≤ l.length
  | [], _ => Nat.le_refl _
  | x :: r, k => by
    unfold dl delA
    split
    · simp
    · have := del_len r k
      simp only [List.length_cons]
      show (dl r k).length + 1 ≤ _
      omega
theorem remB_len (l : List EE) (k : EK) : (remB l k).1.length ≤ l.length + 1 := by
  unfold remB
  split
  · split
    · simp
    · have := del_len l k
      show (dl l k).length ≤ _
      omega
  · simp
attribute [local go_sem high] eqA25 eqA28
variable [digit_Fine.Has] [field_Right.Has] [deal_typeOf.Has] [paydeskref07_Order.Has]
set_option maxHeartbeats 8000000 in
set_option maxRecDepth 100000 in
theorem ShardRight_l (A : Option Addr) (c : Nat) (l : List EE) (e : EE) (q : EK) (st : Int) (w : World) (hr : Kd.C k28 w A l.length l) (hc : l.length ≤ c) (hs : shortB l = false) (hty : TypesAt w) :
    Calls Tryd.prog 3 #[.slice A l.length c, vE e, vK q, .int .i64 st] w fun e w' => e = .returned (.bool true) ∧ Below w.heap.size w w' := by
  obtain ⟨W2, hW2⟩ : ∃ W2, W2 = (w.alloc (bxE e)).alloc (bxK q) := ⟨_, rfl⟩
  have hz2 : W2.heap.size = w.heap.size + 1 + 1 := by rw [hW2]; simp
  have BE2 : BoxE W2 w.heap.size e := by rw [hW2]; exact (BoxE.new w e).below (below_alloc _ _)
  have BK2 : BoxK W2 (w.heap.size + 1) q := by rw [hW2]; have h := BoxK.new (w.alloc (bxE e)) q; simp only [World.size_alloc] at h; exact h
  have HB2 : Below w.heap.size w W2 := by rw [hW2]; exact below_next (below_alloc _ _) (below_alloc _ _)
  have HT := Sealed.mk hty
  have HW := Sealed.mk hW2
  have HR2 := Sealed.mk (Kd.C_below hr HB2)
  have HBS2 := Sealed.mk HB2
  have BES2 := Sealed.mk BE2
  have BKS2 := Sealed.mk BK2
  clear hW2 hty hr HB2 BE2 BK2 hz2
  have HS := Sealed.mk hs
  clear hs
  go_enter Tryd.func3, Tryd.ntmps3
  go_wp2_with fail
  rw [← HW.out]
  refine (awake10 W2 (HT.out.of HBS2.out)).mono ?_
  rintro _ w1 ⟨rfl, hb1⟩
  have BE1 := Sealed.mk (BES2.out.below hb1)
  have BK1 := Sealed.mk (BKS2.out.below hb1)
  have HR1 := Sealed.mk (Kd.C_below HR2.out hb1)
  have HB1 := Sealed.mk (below_next HBS2.out hb1)
  clear hb1 BES2 BKS2 HR2 HBS2 HW
  go_wp2_with fail
  refine (ref_short A c l false HS.out w1 HR1.out hc).mono ?_
  rintro _ w3 ⟨rfl, hb3⟩
  have BE3 := Sealed.mk (BE1.out.below hb3)
  have BK3 := Sealed.mk (BK1.out.below hb3)
  have HR3 := Sealed.mk (Kd.C_below HR1.out hb3)
  have HB3 := Sealed.mk (below_next HB1.out hb3)
  clear hb3 BE1 BK1 HR1 HB1
  (try clear x0 x1 x2 x3 x4 x5 x6 x7)
  (try clear k0 k1)
  go_wp2
  go_ret
  exact ⟨rfl, HB3.out⟩
set_option maxHeartbeats 8000000 in
set_option maxRecDepth 100000 in
theorem ShardRight_e (A : Option Addr) (c : Nat) (l : List EE) (e : EE) (q : EK) (st : Int) (w : World) (hr : Kd.C k28 w A l.length l) (hc : l.length ≤ c) (hs : shortB l = true) (hs2 : shortE e = false) (hty : TypesAt w) :
    Calls Tryd.prog 3 #[.slice A l.length c, vE e, vK q, .int .i64 st] w fun e w' => e = .returned (.bool true) ∧ Below w.heap.size w w' := by
  obtain ⟨W2, hW2⟩ : ∃ W2, W2 = (w.alloc (bxE e)).alloc (bxK q) := ⟨_, rfl⟩
  have hz2 : W2.heap.size = w.heap.size + 1 + 1 := by rw [hW2]; simp
  have BE2 : BoxE W2 w.heap.size e := by rw [hW2]; exact (BoxE.new w e).below (below_alloc _ _)
  have BK2 : BoxK W2 (w.heap.size + 1) q := by rw [hW2]; have h := BoxK.new (w.alloc (bxE e)) q; simp only [World.size_alloc] at h; exact h
  have HB2 : Below w.heap.size w W2 := by rw [hW2]; exact below_next (below_alloc _ _) (below_alloc _ _)
  have HT := Sealed.mk hty
  have HW := Sealed.mk hW2
  have HR2 := Sealed.mk (Kd.C_below hr HB2)
  have HBS2 := Sealed.mk HB2
  have BES2 := Sealed.mk BE2
  have BKS2 := Sealed.mk BK2
  clear hW2 hty hr HB2 BE2 BK2 hz2
  have HS := Sealed.mk hs
  have HS2 := Sealed.mk hs2
  clear hs hs2
  go_enter Tryd.func3, Tryd.ntmps3
  go_wp2_with fail
  rw [← HW.out]
  refine (awake10 W2 (HT.out.of HBS2.out)).mono ?_
  rintro _ w1 ⟨rfl, hb1⟩
  have BE1 := Sealed.mk (BES2.out.below hb1)
  have BK1 := Sealed.mk (BKS2.out.below hb1)
  have HR1 := Sealed.mk (Kd.C_below HR2.out hb1)
  have HB1 := Sealed.mk (below_next HBS2.out hb1)
  clear hb1 BES2 BKS2 HR2 HBS2 HW
  go_wp2_with fail
  refine (ref_short A c l true HS.out w1 HR1.out hc).mono ?_
  rintro _ w3 ⟨rfl, hb3⟩
  have BE3 := Sealed.mk (BE1.out.below hb3)
  have BK3 := Sealed.mk (BK1.out.below hb3)
  have HR3 := Sealed.mk (Kd.C_below HR1.out hb3)
  have HB3 := Sealed.mk (below_next HB1.out hb3)
  clear hb3 BE1 BK1 HR1 HB1
  (try clear x0 x1 x2 x3 x4 x5 x6 x7)
  (try clear k0 k1)
  obtain ⟨x0, x1, x2, x3, x4, x5, x6, x7⟩ := BE3.out
  go_wp2_with fail
  refine (ref_shortE e false HS2.out w3).mono ?_
  rintro _ w4 ⟨rfl, hb4⟩
  have BE4 := Sealed.mk (BE3.out.below hb4)
  have BK4 := Sealed.mk (BK3.out.below hb4)
  have HR4 := Sealed.mk (Kd.C_below HR3.out hb4)
  have HB4 := Sealed.mk (below_next HB3.out hb4)
  clear hb4 BE3 BK3 HR3 HB3
  (try clear x0 x1 x2 x3 x4 x5 x6 x7)
  (try clear k0 k1)
  go_wp2
  go_ret
  exact ⟨rfl, HB4.out⟩
set_option maxHeartbeats 8000000 in
set_option maxRecDepth 100000 in
theorem ShardRight_k (A : Option Addr) (c : Nat) (l : List EE) (e : EE) (q : EK) (st : Int) (w : World) (hr : Kd.C k28 w A l.length l) (hc : l.length ≤ c) (hs : shortB l = true) (hs2 : shortE e = true) (hs3 : decide (q.f1.size ≤ 300) = false) (hty : TypesAt w) :
    Calls Tryd.prog 3 #[.slice A l.length c, vE e, vK q, .int .i64 st] w fun e w' => e = .returned (.bool true) ∧ Below w.heap.size w w' := by
  obtain ⟨W2, hW2⟩ : ∃ W2, W2 = (w.alloc (bxE e)).alloc (bxK q) := ⟨_, rfl⟩
  have hz2 : W2.heap.size = w.heap.size + 1 + 1 := by rw [hW2]; simp
  have BE2 : BoxE W2 w.heap.size e := by rw [hW2]; exact (BoxE.new w e).below (below_alloc _ _)
  have BK2 : BoxK W2 (w.heap.size + 1) q := by rw [hW2]; have h := BoxK.new (w.alloc (bxE e)) q; simp only [World.size_alloc] at h; exact h
  have HB2 : Below w.heap.size w W2 := by rw [hW2]; exact below_next (below_alloc _ _) (below_alloc _ _)
  have HT := Sealed.mk hty
  have HW := Sealed.mk hW2
  have HR2 := Sealed.mk (Kd.C_below hr HB2)
  have HBS2 := Sealed.mk HB2
  have BES2 := Sealed.mk BE2
  have BKS2 := Sealed.mk BK2
  clear hW2 hty hr HB2 BE2 BK2 hz2
  have HS := Sealed.mk hs
  have HS2 := Sealed.mk hs2
  have HS3 := Sealed.mk hs3
  clear hs hs2 hs3
  go_enter Tryd.func3, Tryd.ntmps3
  go_wp2_with fail
  rw [← HW.out]
  refine (awake10 W2 (HT.out.of HBS2.out)).mono ?_
  rintro _ w1 ⟨rfl, hb1⟩
  have BE1 := Sealed.mk (BES2.out.below hb1)
  have BK1 := Sealed.mk (BKS2.out.below hb1)
  have HR1 := Sealed.mk (Kd.C_below HR2.out hb1)
  have HB1 := Sealed.mk (below_next HBS2.out hb1)
  clear hb1 BES2 BKS2 HR2 HBS2 HW
  go_wp2_with fail
  refine (ref_short A c l true HS.out w1 HR1.out hc).mono ?_
  rintro _ w3 ⟨rfl, hb3⟩
  have BE3 := Sealed.mk (BE1.out.below hb3)
  have BK3 := Sealed.mk (BK1.out.below hb3)
  have HR3 := Sealed.mk (Kd.C_below HR1.out hb3)
  have HB3 := Sealed.mk (below_next HB1.out hb3)
  clear hb3 BE1 BK1 HR1 HB1
  (try clear x0 x1 x2 x3 x4 x5 x6 x7)
  (try clear k0 k1)
  obtain ⟨x0, x1, x2, x3, x4, x5, x6, x7⟩ := BE3.out
  go_wp2_with fail
  refine (ref_shortE e true HS2.out w3).mono ?_
  rintro _ w4 ⟨rfl, hb4⟩
  have BE4 := Sealed.mk (BE3.out.below hb4)
  have BK4 := Sealed.mk (BK3.out.below hb4)
  have HR4 := Sealed.mk (Kd.C_below HR3.out hb4)
  have HB4 := Sealed.mk (below_next HB3.out hb4)
  clear hb4 BE3 BK3 HR3 HB3
  (try clear x0 x1 x2 x3 x4 x5 x6 x7)
  (try clear k0 k1)
  obtain ⟨k0, k1⟩ := BK4.out
  go_wp2_with fail
  refine (ref_shortK q false HS3.out w4).mono ?_
  rintro _ w5 ⟨rfl, hb5⟩
  have BE5 := Sealed.mk (BE4.out.below hb5)
  have BK5 := Sealed.mk (BK4.out.below hb5)
  have HR5 := Sealed.mk (Kd.C_below HR4.out hb5)
  have HB5 := Sealed.mk (below_next HB4.out hb5)
  clear hb5 BE4 BK4 HR4 HB4
  (try clear x0 x1 x2 x3 x4 x5 x6 x7)
  (try clear k0 k1)
  go_wp2
  go_ret
  exact ⟨rfl, HB5.out⟩
set_option maxHeartbeats 8000000 in
set_option maxRecDepth 100000 in
theorem ShardRight_some (A : Option Addr) (c : Nat) (l : List EE) (e : EE) (q : EK) (st : Int) (w : World) (hr : Kd.C k28 w A l.length l) (hc : l.length ≤ c) (hs : shortB l = true) (hs2 : shortE e = true) (hs3 : decide (q.f1.size ≤ 300) = true) (hok : ∀ x ∈ l, Ok x) (hoe : Ok e) (hn : l.length ≤ 200) (y : EE) (hf : fd l q = some y) (hty : TypesAt w) :
    Calls Tryd.prog 3 #[.slice A l.length c, vE e, vK q, .int .i64 st] w fun e w' => e = .returned (.bool true) ∧ Below w.heap.size w w' := by
  obtain ⟨W2, hW2⟩ : ∃ W2, W2 = (w.alloc (bxE e)).alloc (bxK q) := ⟨_, rfl⟩
  have hz2 : W2.heap.size = w.heap.size + 1 + 1 := by rw [hW2]; simp
  have BE2 : BoxE W2 w.heap.size e := by rw [hW2]; exact (BoxE.new w e).below (below_alloc _ _)
  have BK2 : BoxK W2 (w.heap.size + 1) q := by rw [hW2]; have h := BoxK.new (w.alloc (bxE e)) q; simp only [World.size_alloc] at h; exact h
  have HB2 : Below w.heap.size w W2 := by rw [hW2]; exact below_next (below_alloc _ _) (below_alloc _ _)
  have HT := Sealed.mk hty
  have HW := Sealed.mk hW2
  have HR2 := Sealed.mk (Kd.C_below hr HB2)
  have HBS2 := Sealed.mk HB2
  have BES2 := Sealed.mk BE2
  have BKS2 := Sealed.mk BK2
  clear hW2 hty hr HB2 BE2 BK2 hz2
  have HS := Sealed.mk hs
  have HS2 := Sealed.mk hs2
  have HS3 := Sealed.mk hs3
  have HOK := Sealed.mk hok
  have HOE := Sealed.mk hoe
  have HF := Sealed.mk hf
  obtain ⟨p, hpl, hpI, _, hpe⟩ := placeI_some hf
  have HPI := Sealed.mk hpI
  have HPE := Sealed.mk hpe
  clear hpI hpe
  have h1000 : l.length ≤ 1000 := by omega
  obtain ⟨R1, hR1⟩ : ∃ R, insB l e = R := ⟨_, rfl⟩
  have hl1 := insB_len l e
  rw [hR1] at hl1
  have HRS1 := Sealed.mk hR1
  clear hR1
  obtain ⟨R2, hR2⟩ : ∃ R, swpB l st e = R := ⟨_, rfl⟩
  have hl2 := swpB_len l st e
  rw [hR2] at hl2
  have HRS2 := Sealed.mk hR2
  clear hR2
  obtain ⟨R3, hR3⟩ : ∃ R, remB l q = R := ⟨_, rfl⟩
  have hl3 := remB_len l q
  rw [hR3] at hl3
  have HRS3 := Sealed.mk hR3
  clear hR3
  obtain ⟨be, hbe⟩ : ∃ b, entryB e = b := ⟨_, rfl⟩
  have HBE := Sealed.mk hbe
  obtain ⟨bs, hbs⟩ : ∃ b, shardB l = b := ⟨_, rfl⟩
  have HBS := Sealed.mk hbs
  clear hs hs2 hs3 hok hoe hf hbe hbs
  go_enter Tryd.func3, Tryd.ntmps3
  go_wp2_with fail
  rw [← HW.out]
  refine (awake10 W2 (HT.out.of HBS2.out)).mono ?_
  rintro _ w1 ⟨rfl, hb1⟩
  have BE1 := Sealed.mk (BES2.out.below hb1)
  have BK1 := Sealed.mk (BKS2.out.below hb1)
  have HR1 := Sealed.mk (Kd.C_below HR2.out hb1)
  have HB1 := Sealed.mk (below_next HBS2.out hb1)
  clear hb1 BES2 BKS2 HR2 HBS2 HW
  go_wp2_with fail
  refine (ref_short A c l true HS.out w1 HR1.out hc).mono ?_
  rintro _ w3 ⟨rfl, hb3⟩
  have BE3 := Sealed.mk (BE1.out.below hb3)
  have BK3 := Sealed.mk (BK1.out.below hb3)
  have HR3 := Sealed.mk (Kd.C_below HR1.out hb3)
  have HB3 := Sealed.mk (below_next HB1.out hb3)
  clear hb3 BE1 BK1 HR1 HB1
  (try clear x0 x1 x2 x3 x4 x5 x6 x7)
  (try clear k0 k1)
  obtain ⟨x0, x1, x2, x3, x4, x5, x6, x7⟩ := BE3.out
  go_wp2_with fail
  refine (ref_shortE e true HS2.out w3).mono ?_
  rintro _ w4 ⟨rfl, hb4⟩
  have BE4 := Sealed.mk (BE3.out.below hb4)
  have BK4 := Sealed.mk (BK3.out.below hb4)
  have HR4 := Sealed.mk (Kd.C_below HR3.out hb4)
  have HB4 := Sealed.mk (below_next HB3.out hb4)
  clear hb4 BE3 BK3 HR3 HB3
  (try clear x0 x1 x2 x3 x4 x5 x6 x7)
  (try clear k0 k1)
  obtain ⟨k0, k1⟩ := BK4.out
  go_wp2_with fail
  refine (ref_shortK q true HS3.out w4).mono ?_
  rintro _ w5 ⟨rfl, hb5⟩
  have BE5 := Sealed.mk (BE4.out.below hb5)
  have BK5 := Sealed.mk (BK4.out.below hb5)
  have HR5 := Sealed.mk (Kd.C_below HR4.out hb5)
  have HB5 := Sealed.mk (below_next HB4.out hb5)
  clear hb5 BE4 BK4 HR4 HB4
  (try clear x0 x1 x2 x3 x4 x5 x6 x7)
  (try clear k0 k1)
  obtain ⟨k0, k1⟩ := BK5.out
  go_wp2_with fail
  refine (sh_find A c l q (some y) HF.out w5 HR5.out hc h1000).mono ?_
  rintro _ w6 ⟨rfl, hb6⟩
  have BE6 := Sealed.mk (BE5.out.below hb6)
  have BK6 := Sealed.mk (BK5.out.below hb6)
  have HR6 := Sealed.mk (Kd.C_below HR5.out hb6)
  have HB6 := Sealed.mk (below_next HB5.out hb6)
  clear hb6 BE5 BK5 HR5 HB5
  (try clear k0 k1)
  obtain ⟨k0, k1⟩ := BK6.out
  have hlt6 : w.heap.size + 1 < w6.heap.size := World.block_lt_of_cell? w6 _ k0
  go_wp2_with fail
  obtain ⟨W7, hW7⟩ : ∃ W7, W7 = w6.alloc (bxE y) := ⟨_, rfl⟩
  rw [← hW7]
  have hb7 := below_alloc w6 (bxE y)
  rw [← hW7] at hb7
  have BX7 : Sealed (BoxE W7 w6.heap.size y) := ⟨by rw [hW7]; exact BoxE.new w6 y⟩
  clear hW7 k0 k1 hlt6
  have BE7 := Sealed.mk (BE6.out.below hb7)
  have BK7 := Sealed.mk (BK6.out.below hb7)
  have HR7 := Sealed.mk (Kd.C_below HR6.out hb7)
  have HB7 := Sealed.mk (below_next HB6.out hb7)
  clear hb7 BE6 BK6 HR6 HB6
  refine (ref_place A c l q p HPI.out W7 HR7.out hc h1000).mono ?_
  rintro _ w8 ⟨rfl, hb8⟩
  have BX8 := Sealed.mk (BX7.out.below hb8)
  clear BX7
  have BE8 := Sealed.mk (BE7.out.below hb8)
  have BK8 := Sealed.mk (BK7.out.below hb8)
  have HR8 := Sealed.mk (Kd.C_below HR7.out hb8)
  have HB8 := Sealed.mk (below_next HB7.out hb8)
  clear hb8 BE7 BK7 HR7 HB7
  (try clear k0 k1)
  have bx := BX8.out
  obtain ⟨ad, rfl, c0, c1, c2, c3, c4, c5, c6, c7⟩ := at_e HR8.out rfl p hpl
  rw [HPE.out] at c0 c1 c2 c3 c4 c5 c6 c7
  go_wp2_with fail
  refine wp_region_held_drew (S := fun w' => w'.cell? ⟨w6.heap.size, 0, none⟩ = some (.int .u32 y.f0.f0) ∧ w'.cell? ⟨w6.heap.size, 1, none⟩ = some (.string y.f0.f1) ∧ w'.cell? ⟨w6.heap.size, 2, none⟩ = some (.int .i64 y.f1) ∧ w'.cell? ⟨w6.heap.size, 3, none⟩ = some (.string y.f2) ∧ w'.cell? ⟨w6.heap.size, 4, none⟩ = some (.int .u64 y.f3) ∧ w'.cell? ⟨w6.heap.size, 5, none⟩ = some (.string y.f4) ∧ w'.cell? ⟨w6.heap.size, 6, none⟩ = some (.int .i64 y.f5) ∧ w'.cell? ⟨w6.heap.size, 7, none⟩ = some (.int .i64 y.f6) ∧ w'.cell? (ad.add (p * 8)) = some (.int .u32 y.f0.f0) ∧ w'.cell? ⟨(ad.add (p * 8)).block, (ad.add (p * 8)).off + 1, none⟩ = some (.string y.f0.f1) ∧ w'.cell? ⟨(ad.add (p * 8)).block, (ad.add (p * 8)).off + 2, none⟩ = some (.int .i64 y.f1) ∧ w'.cell? ⟨(ad.add (p * 8)).block, (ad.add (p * 8)).off + 3, none⟩ = some (.string y.f2) ∧ w'.cell? ⟨(ad.add (p * 8)).block, (ad.add (p * 8)).off + 4, none⟩ = some (.int .u64 y.f3) ∧ w'.cell? ⟨(ad.add (p * 8)).block, (ad.add (p * 8)).off + 5, none⟩ = some (.string y.f4) ∧ w'.cell? ⟨(ad.add (p * 8)).block, (ad.add (p * 8)).off + 6, none⟩ = some (.int .i64 y.f5) ∧ w'.cell? ⟨(ad.add (p * 8)).block, (ad.add (p * 8)).off + 7, none⟩ = some (.int .i64 y.f6)) (by kernel_rfl) (⟨bx.1, bx.2.1, bx.2.2.1, bx.2.2.2.1, bx.2.2.2.2.1, bx.2.2.2.2.2.1, bx.2.2.2.2.2.2.1, bx.2.2.2.2.2.2.2, c0, c1, c2, c3, c4, c5, c6, c7⟩) (fun hHeld => ?_)
  refine wpAnyH_take (i := 0) (oi := { dst := some 40, op := Op.move (Operand.tmp 10), type := 4, pos := "law.go:35", after := #[], guard := none }) (v := ?vr1_0) rfl (by kernel_rfl) (by kernel_rfl) (by kernel_rfl) (fun _ _ _ h => h) (Or.inl ⟨by rfl, ?hyr1_0⟩) (by assumption) ?restr1_0
  case hyr1_0 => (intro wS hS; (try dsimp only at hS); go_simp; (try with_reducible rfl))
  (try simp only [Act.put, List.setIfInBounds_toArray, List.set_cons_zero, List.set_cons_succ])
  refine wpAnyH_take (i := 1) (oi := { dst := some 41, op := Op.move (Operand.tmp 11), type := 3, pos := "law.go:35", after := #[], guard := none }) (v := ?vr1_1) rfl (by kernel_rfl) (by kernel_rfl) (by kernel_rfl) (fun _ _ _ h => h) (Or.inl ⟨by rfl, ?hyr1_1⟩) (by assumption) ?restr1_1
  case hyr1_1 => (intro wS hS; (try dsimp only at hS); go_simp; (try with_reducible rfl))
  (try simp only [Act.put, List.setIfInBounds_toArray, List.set_cons_zero, List.set_cons_succ])
  refine wpAnyH_take (i := 2) (oi := { dst := some 42, op := Op.binOp BinOp.geq 3 (Operand.tmp 41) (Operand.const (Value.int IntKind.i64 0)) 3, type := 4, pos := "law.go:35", after := #[{ on := 1, ground := Ground.data }], guard := none }) (v := ?vr1_2) rfl (by kernel_rfl) (by kernel_rfl) (by kernel_rfl) (fun _ _ _ h => h) (Or.inl ⟨by rfl, ?hyr1_2⟩) (by assumption) ?restr1_2
  case hyr1_2 => (intro wS hS; (try dsimp only at hS); go_simp; (try with_reducible rfl))
  (try simp only [Act.put, List.setIfInBounds_toArray, List.set_cons_zero, List.set_cons_succ])
  refine wpAnyH_take (i := 3) (oi := { dst := some 43, op := Op.binOp BinOp.neq 4 (Operand.tmp 40) (Operand.tmp 42) 4, type := 4, pos := "law.go:35", after := #[{ on := 0, ground := Ground.data }, { on := 2, ground := Ground.data }], guard := none }) (v := ?vr1_3) rfl (by kernel_rfl) (by kernel_rfl) (by kernel_rfl) (fun _ _ _ h => h) (Or.inl ⟨by rfl, ?hyr1_3⟩) (by assumption) ?restr1_3
  case hyr1_3 => (intro wS hS; (try dsimp only at hS); go_simp; (try with_reducible rfl))
  (try simp only [Act.put, List.setIfInBounds_toArray, List.set_cons_zero, List.set_cons_succ])
  refine wpAnyH_take (i := 4) (oi := { dst := some 44, op := Op.move (Operand.tmp 43), type := 4, pos := "law.go:35", after := #[{ on := 3, ground := Ground.data }], guard := none }) (v := ?vr1_4) rfl (by kernel_rfl) (by kernel_rfl) (by kernel_rfl) (fun _ _ _ h => h) (Or.inl ⟨by rfl, ?hyr1_4⟩) (by assumption) ?restr1_4
  case hyr1_4 => (intro wS hS; (try dsimp only at hS); go_simp; (try with_reducible rfl))
  (try simp only [Act.put, List.setIfInBounds_toArray, List.set_cons_zero, List.set_cons_succ])
  refine wpAnyH_take (i := 5) (oi := { dst := some 45, op := Op.move (Operand.tmp 10), type := 4, pos := "law.go:35", after := #[{ on := 4, ground := Ground.guard }], guard := some (4, false) }) (v := ?vr1_5) rfl (by kernel_rfl) (by kernel_rfl) (by kernel_rfl) (fun _ _ _ h => h) (Or.inl ⟨by rfl, ?hyr1_5⟩) (by assumption) ?restr1_5
  case hyr1_5 => (intro wS hS; (try dsimp only at hS); go_simp; (try with_reducible rfl))
  (try simp only [Act.put, List.setIfInBounds_toArray, List.set_cons_zero, List.set_cons_succ])
  refine wpAnyH_take (i := 6) (oi := { dst := some 46, op := Op.move (Operand.tmp 45), type := 4, pos := "law.go:35", after := #[{ on := 5, ground := Ground.data }, { on := 4, ground := Ground.chain }, { on := 4, ground := Ground.guard }], guard := some (4, false) }) (v := ?vr1_6) rfl (by kernel_rfl) (by kernel_rfl) (by kernel_rfl) (fun _ _ _ h => h) (Or.inl ⟨by rfl, ?hyr1_6⟩) (by assumption) ?restr1_6
  case hyr1_6 => (intro wS hS; (try dsimp only at hS); go_simp; (try with_reducible rfl))
  (try simp only [Act.put, List.setIfInBounds_toArray, List.set_cons_zero, List.set_cons_succ])
  refine wpAnyH_take (i := 7) (oi := { dst := some 47, op := Op.load 28 (Operand.tmp 9), type := 28, pos := "law.go:35", after := #[{ on := 6, ground := Ground.guard }], guard := some (6, true) }) (v := ?vr1_7) rfl (by kernel_rfl) (by kernel_rfl) (by kernel_rfl) (fun _ _ _ h => h) (Or.inl ⟨by rfl, ?hyr1_7⟩) (by assumption) ?restr1_7
  case hyr1_7 => (intro wS hS; (try dsimp only at hS); go_simp; (try with_reducible rfl))
  (try simp only [Act.put, List.setIfInBounds_toArray, List.set_cons_zero, List.set_cons_succ])
  refine wpAnyH_take (i := 8) (oi := { dst := some 48, op := Op.move (Operand.tmp 0), type := 22, pos := "law.go:35", after := #[{ on := 6, ground := Ground.guard }], guard := some (6, true) }) (v := ?vr1_8) rfl (by kernel_rfl) (by kernel_rfl) (by kernel_rfl) (fun _ _ _ h => h) (Or.inl ⟨by rfl, ?hyr1_8⟩) (by assumption) ?restr1_8
  case hyr1_8 => (intro wS hS; (try dsimp only at hS); go_simp; (try with_reducible rfl))
  (try simp only [Act.put, List.setIfInBounds_toArray, List.set_cons_zero, List.set_cons_succ])
  refine wpAnyH_take (i := 9) (oi := { dst := some 49, op := Op.move (Operand.tmp 11), type := 3, pos := "law.go:35", after := #[{ on := 6, ground := Ground.guard }], guard := some (6, true) }) (v := ?vr1_9) rfl (by kernel_rfl) (by kernel_rfl) (by kernel_rfl) (fun _ _ _ h => h) (Or.inl ⟨by rfl, ?hyr1_9⟩) (by assumption) ?restr1_9
  case hyr1_9 => (intro wS hS; (try dsimp only at hS); go_simp; (try with_reducible rfl))
  (try simp only [Act.put, List.setIfInBounds_toArray, List.set_cons_zero, List.set_cons_succ])
  refine wpAnyH_take (i := 10) (oi := { dst := some 50, op := Op.indexAddr 22 (Operand.tmp 48) (Operand.tmp 49), type := 0, pos := "law.go:35", after := #[{ on := 8, ground := Ground.data }, { on := 9, ground := Ground.data }, { on := 6, ground := Ground.guard }], guard := some (6, true) }) (v := ?vr1_10) rfl (by kernel_rfl) (by kernel_rfl) (by kernel_rfl) (fun _ _ _ h => h) (Or.inl ⟨by rfl, ?hyr1_10⟩) (by assumption) ?restr1_10
  case hyr1_10 => (intro wS hS; (try dsimp only at hS); go_simp; (try with_reducible rfl))
  (try simp only [Act.put, List.setIfInBounds_toArray, List.set_cons_zero, List.set_cons_succ])
  refine wpAnyH_take (i := 11) (oi := { dst := some 51, op := Op.load 28 (Operand.tmp 50), type := 28, pos := "law.go:35", after := #[{ on := 10, ground := Ground.data }, { on := 6, ground := Ground.guard }], guard := some (6, true) }) (v := ?vr1_11) rfl (by kernel_rfl) (by kernel_rfl) (by kernel_rfl) (fun _ _ _ h => h) (Or.inl ⟨by rfl, ?hyr1_11⟩) (by assumption) ?restr1_11
  case hyr1_11 => (intro wS hS; (try dsimp only at hS); go_simp; (try with_reducible rfl))
  (try simp only [Act.put, List.setIfInBounds_toArray, List.set_cons_zero, List.set_cons_succ])
  refine wpAnyH_take (i := 12) (oi := { dst := some 52, op := Op.binOp BinOp.neq 28 (Operand.tmp 47) (Operand.tmp 51) 28, type := 4, pos := "law.go:35", after := #[{ on := 7, ground := Ground.data }, { on := 11, ground := Ground.data }, { on := 6, ground := Ground.guard }], guard := some (6, true) }) (v := .bool false) rfl (by kernel_rfl) (by kernel_rfl) (by kernel_rfl) (fun _ _ _ h => h) (Or.inl ⟨by rfl, ?hyr1_12⟩) (by assumption) ?restr1_12
  case hyr1_12 => (intro wS hS; (try dsimp only at hS); go_simp; (try simp))
  (try simp only [Act.put, List.setIfInBounds_toArray, List.set_cons_zero, List.set_cons_succ])
  refine wpAnyH_take (i := 13) (oi := { dst := some 53, op := Op.pick (Operand.tmp 46) (Operand.tmp 52) (Operand.const (Value.bool false)), type := 4, pos := "law.go:35", after := #[{ on := 6, ground := Ground.data }, { on := 12, ground := Ground.data }, { on := 4, ground := Ground.guard }], guard := some (4, false) }) (v := ?vr1_13) rfl (by kernel_rfl) (by kernel_rfl) (by kernel_rfl) (fun _ _ _ h => h) (Or.inl ⟨by rfl, ?hyr1_13⟩) (by assumption) ?restr1_13
  case hyr1_13 => (intro wS hS; (try dsimp only at hS); go_simp; (try with_reducible rfl))
  (try simp only [Act.put, List.setIfInBounds_toArray, List.set_cons_zero, List.set_cons_succ])
  refine wpAnyH_take (i := 14) (oi := { dst := some 54, op := Op.pick (Operand.tmp 44) (Operand.const (Value.bool true)) (Operand.tmp 53), type := 4, pos := "law.go:35", after := #[{ on := 4, ground := Ground.data }, { on := 13, ground := Ground.data }], guard := none }) (v := ?vr1_14) rfl (by kernel_rfl) (by kernel_rfl) (by kernel_rfl) (fun _ _ _ h => h) (Or.inl ⟨by rfl, ?hyr1_14⟩) (by assumption) ?restr1_14
  case hyr1_14 => (intro wS hS; (try dsimp only at hS); go_simp; (try with_reducible rfl))
  (try simp only [Act.put, List.setIfInBounds_toArray, List.set_cons_zero, List.set_cons_succ])
  refine wpAnyH_take (i := 15) (oi := { dst := some 55, op := Op.move (Operand.tmp 54), type := 4, pos := "law.go:35", after := #[{ on := 14, ground := Ground.data }, { on := 6, ground := Ground.chain }], guard := none }) (v := ?vr1_15) rfl (by kernel_rfl) (by kernel_rfl) (by kernel_rfl) (fun _ _ _ h => h) (Or.inl ⟨by rfl, ?hyr1_15⟩) (by assumption) ?restr1_15
  case hyr1_15 => (intro wS hS; (try dsimp only at hS); go_simp; (try with_reducible rfl))
  (try simp only [Act.put, List.setIfInBounds_toArray, List.set_cons_zero, List.set_cons_succ])
  refine wpAnyH_take (i := 16) (oi := { dst := some 56, op := Op.move (Operand.tmp 10), type := 4, pos := "law.go:35", after := #[{ on := 15, ground := Ground.guard }], guard := some (15, false) }) (v := ?vr1_16) rfl (by kernel_rfl) (by kernel_rfl) (by kernel_rfl) (fun _ _ _ h => h) (Or.inl ⟨by rfl, ?hyr1_16⟩) (by assumption) ?restr1_16
  case hyr1_16 => (intro wS hS; (try dsimp only at hS); go_simp; (try with_reducible rfl))
  (try simp only [Act.put, List.setIfInBounds_toArray, List.set_cons_zero, List.set_cons_succ])
  refine wpAnyH_take (i := 17) (oi := { dst := some 57, op := Op.unOp UnOp.not 4 (Operand.tmp 56), type := 4, pos := "law.go:35", after := #[{ on := 16, ground := Ground.data }, { on := 15, ground := Ground.guard }], guard := some (15, false) }) (v := ?vr1_17) rfl (by kernel_rfl) (by kernel_rfl) (by kernel_rfl) (fun _ _ _ h => h) (Or.inl ⟨by rfl, ?hyr1_17⟩) (by assumption) ?restr1_17
  case hyr1_17 => (intro wS hS; (try dsimp only at hS); go_simp; (try with_reducible rfl))
  (try simp only [Act.put, List.setIfInBounds_toArray, List.set_cons_zero, List.set_cons_succ])
  refine wpAnyH_take (i := 18) (oi := { dst := some 58, op := Op.move (Operand.tmp 57), type := 4, pos := "law.go:35", after := #[{ on := 17, ground := Ground.data }, { on := 15, ground := Ground.chain }, { on := 15, ground := Ground.guard }], guard := some (15, false) }) (v := ?vr1_18) rfl (by kernel_rfl) (by kernel_rfl) (by kernel_rfl) (fun _ _ _ h => h) (Or.inl ⟨by rfl, ?hyr1_18⟩) (by assumption) ?restr1_18
  case hyr1_18 => (intro wS hS; (try dsimp only at hS); go_simp; (try with_reducible rfl))
  (try simp only [Act.put, List.setIfInBounds_toArray, List.set_cons_zero, List.set_cons_succ])
  refine wpAnyH_take (i := 19) (oi := { dst := some 59, op := Op.load 28 (Operand.tmp 9), type := 28, pos := "law.go:35", after := #[{ on := 18, ground := Ground.guard }], guard := some (18, true) }) (v := undef) rfl (by kernel_rfl) (by kernel_rfl) (by kernel_rfl) (fun _ _ _ h => h) (Or.inr ⟨by rfl, rfl⟩) (by assumption) ?_
  (try simp only [Act.put, List.setIfInBounds_toArray, List.set_cons_zero, List.set_cons_succ])
  refine wpAnyH_take (i := 20) (oi := { dst := some 60, op := Op.build 28 #[], type := 28, pos := "law.go:35", after := #[{ on := 18, ground := Ground.guard }], guard := some (18, true) }) (v := undef) rfl (by kernel_rfl) (by kernel_rfl) (by kernel_rfl) (fun _ _ _ h => h) (Or.inr ⟨by rfl, rfl⟩) (by assumption) ?_
  (try simp only [Act.put, List.setIfInBounds_toArray, List.set_cons_zero, List.set_cons_succ])
  refine wpAnyH_take (i := 21) (oi := { dst := some 61, op := Op.binOp BinOp.neq 28 (Operand.tmp 59) (Operand.tmp 60) 28, type := 4, pos := "law.go:35", after := #[{ on := 19, ground := Ground.data }, { on := 20, ground := Ground.data }, { on := 18, ground := Ground.guard }], guard := some (18, true) }) (v := undef) rfl (by kernel_rfl) (by kernel_rfl) (by kernel_rfl) (fun _ _ _ h => h) (Or.inr ⟨by rfl, rfl⟩) (by assumption) ?_
  (try simp only [Act.put, List.setIfInBounds_toArray, List.set_cons_zero, List.set_cons_succ])
  refine wpAnyH_take (i := 22) (oi := { dst := some 62, op := Op.pick (Operand.tmp 58) (Operand.tmp 61) (Operand.const (Value.bool false)), type := 4, pos := "law.go:35", after := #[{ on := 18, ground := Ground.data }, { on := 21, ground := Ground.data }, { on := 15, ground := Ground.guard }], guard := some (15, false) }) (v := ?vr1_22) rfl (by kernel_rfl) (by kernel_rfl) (by kernel_rfl) (fun _ _ _ h => h) (Or.inl ⟨by rfl, ?hyr1_22⟩) (by assumption) ?restr1_22
  case hyr1_22 => (intro wS hS; (try dsimp only at hS); go_simp; (try with_reducible rfl))
  (try simp only [Act.put, List.setIfInBounds_toArray, List.set_cons_zero, List.set_cons_succ])
  refine wpAnyH_take (i := 23) (oi := { dst := some 63, op := Op.pick (Operand.tmp 55) (Operand.const (Value.bool true)) (Operand.tmp 62), type := 4, pos := "law.go:35", after := #[{ on := 15, ground := Ground.data }, { on := 22, ground := Ground.data }], guard := none }) (v := ?vr1_23) rfl (by kernel_rfl) (by kernel_rfl) (by kernel_rfl) (fun _ _ _ h => h) (Or.inl ⟨by rfl, ?hyr1_23⟩) (by assumption) ?restr1_23
  case hyr1_23 => (intro wS hS; (try dsimp only at hS); go_simp; (try with_reducible rfl))
  (try simp only [Act.put, List.setIfInBounds_toArray, List.set_cons_zero, List.set_cons_succ])
  refine wpAnyH_done (by kernel_rfl) ?_ _
  clear hHeld bx BX8 c0 c1 c2 c3 c4 c5 c6 c7
  obtain ⟨w9, hw9⟩ : ∃ w9, w9 = w8.drew := ⟨_, rfl⟩
  have hb9 : Below w8.heap.size w8 w9 := by rw [hw9]; exact (Below.refl _ _).drew
  rw [← hw9]
  clear hw9
  have BE9 := Sealed.mk (BE8.out.below hb9)
  have BK9 := Sealed.mk (BK8.out.below hb9)
  have HR9 := Sealed.mk (Kd.C_below HR8.out hb9)
  have HB9 := Sealed.mk (below_next HB8.out hb9)
  clear hb9 BE8 BK8 HR8 HB8
  obtain ⟨x0, x1, x2, x3, x4, x5, x6, x7⟩ := BE9.out
  go_wp2_with fail
  refine (sh_insert (some ad) c l e w9 HR9.out hc HOK.out HOE.out h1000 (HT.out.of HB9.out)).mono ?_
  rw [HRS1.out]
  rintro _ w10 ⟨A10, d10, rfl, hd10, hC10, hb10, _⟩
  have HX10 := Sealed.mk hC10
  clear hC10
  have BE10 := Sealed.mk (BE9.out.below hb10)
  have BK10 := Sealed.mk (BK9.out.below hb10)
  have HR10 := Sealed.mk (Kd.C_below HR9.out hb10)
  have HB10 := Sealed.mk (below_next HB9.out hb10)
  clear hb10 BE9 BK9 HR9 HB9
  (try clear x0 x1 x2 x3 x4 x5 x6 x7)
  (try clear k0 k1)
  obtain ⟨x0, x1, x2, x3, x4, x5, x6, x7⟩ := BE10.out
  go_wp2_with fail
  refine (ref_insert (some ad) c l e w10 HR10.out hc HOK.out HOE.out h1000).mono ?_
  rw [HRS1.out]
  rintro _ w11 ⟨A11, d11, rfl, hd11, hC11, hb11, _⟩
  have HX11 := Sealed.mk hC11
  clear hC11
  have BE11 := Sealed.mk (BE10.out.below hb11)
  have BK11 := Sealed.mk (BK10.out.below hb11)
  have HR11 := Sealed.mk (Kd.C_below HR10.out hb11)
  have HB11 := Sealed.mk (below_next HB10.out hb11)
  replace HX10 := Sealed.mk (Kd.C_below HX10.out hb11)
  clear hb11 BE10 BK10 HR10 HB10
  (try clear x0 x1 x2 x3 x4 x5 x6 x7)
  (try clear k0 k1)
  go_wp2_with fail
  refine (ref_same A10 A11 d10 d11 R1.1 w11 HX10.out hd10 HX11.out hd11 (by omega)).mono ?_
  rintro _ w12 ⟨rfl, hb12⟩
  have BE12 := Sealed.mk (BE11.out.below hb12)
  have BK12 := Sealed.mk (BK11.out.below hb12)
  have HR12 := Sealed.mk (Kd.C_below HR11.out hb12)
  have HB12 := Sealed.mk (below_next HB11.out hb12)
  clear hb12 BE11 BK11 HR11 HB11
  clear HX10 HX11
  obtain ⟨x0, x1, x2, x3, x4, x5, x6, x7⟩ := BE12.out
  go_wp2_with fail
  refine (sh_swap (some ad) c l st e w12 HR12.out hc HOK.out HOE.out h1000 (HT.out.of HB12.out)).mono ?_
  rw [HRS2.out]
  rintro _ w13 ⟨A13, d13, rfl, hd13, hC13, hb13, _⟩
  have HX13 := Sealed.mk hC13
  clear hC13
  have BE13 := Sealed.mk (BE12.out.below hb13)
  have BK13 := Sealed.mk (BK12.out.below hb13)
  have HR13 := Sealed.mk (Kd.C_below HR12.out hb13)
  have HB13 := Sealed.mk (below_next HB12.out hb13)
  clear hb13 BE12 BK12 HR12 HB12
  (try clear x0 x1 x2 x3 x4 x5 x6 x7)
  (try clear k0 k1)
  obtain ⟨x0, x1, x2, x3, x4, x5, x6, x7⟩ := BE13.out
  go_wp2_with fail
  refine (ref_swap (some ad) c l st e w13 HR13.out hc HOK.out HOE.out h1000).mono ?_
  rw [HRS2.out]
  rintro _ w14 ⟨A14, d14, rfl, hd14, hC14, hb14, _⟩
  have HX14 := Sealed.mk hC14
  clear hC14
  have BE14 := Sealed.mk (BE13.out.below hb14)
  have BK14 := Sealed.mk (BK13.out.below hb14)
  have HR14 := Sealed.mk (Kd.C_below HR13.out hb14)
  have HB14 := Sealed.mk (below_next HB13.out hb14)
  replace HX13 := Sealed.mk (Kd.C_below HX13.out hb14)
  clear hb14 BE13 BK13 HR13 HB13
  (try clear x0 x1 x2 x3 x4 x5 x6 x7)
  (try clear k0 k1)
  go_wp2_with fail
  refine (ref_same A13 A14 d13 d14 R2.1 w14 HX13.out hd13 HX14.out hd14 (by omega)).mono ?_
  rintro _ w15 ⟨rfl, hb15⟩
  have BE15 := Sealed.mk (BE14.out.below hb15)
  have BK15 := Sealed.mk (BK14.out.below hb15)
  have HR15 := Sealed.mk (Kd.C_below HR14.out hb15)
  have HB15 := Sealed.mk (below_next HB14.out hb15)
  clear hb15 BE14 BK14 HR14 HB14
  clear HX13 HX14
  obtain ⟨k0, k1⟩ := BK15.out
  go_wp2_with fail
  refine (sh_remove (some ad) c l q w15 HR15.out hc HOK.out h1000 (HT.out.of HB15.out)).mono ?_
  rw [HRS3.out]
  rintro _ w16 ⟨A16, d16, rfl, hd16, hC16, hb16, _⟩
  have HX16 := Sealed.mk hC16
  clear hC16
  have BE16 := Sealed.mk (BE15.out.below hb16)
  have BK16 := Sealed.mk (BK15.out.below hb16)
  have HR16 := Sealed.mk (Kd.C_below HR15.out hb16)
  have HB16 := Sealed.mk (below_next HB15.out hb16)
  clear hb16 BE15 BK15 HR15 HB15
  (try clear x0 x1 x2 x3 x4 x5 x6 x7)
  (try clear k0 k1)
  obtain ⟨k0, k1⟩ := BK16.out
  go_wp2_with fail
  refine (ref_remove (some ad) c l q w16 HR16.out hc HOK.out h1000).mono ?_
  rw [HRS3.out]
  rintro _ w17 ⟨A17, d17, rfl, hd17, hC17, hb17, _⟩
  have HX17 := Sealed.mk hC17
  clear hC17
  have BE17 := Sealed.mk (BE16.out.below hb17)
  have BK17 := Sealed.mk (BK16.out.below hb17)
  have HR17 := Sealed.mk (Kd.C_below HR16.out hb17)
  have HB17 := Sealed.mk (below_next HB16.out hb17)
  replace HX16 := Sealed.mk (Kd.C_below HX16.out hb17)
  clear hb17 BE16 BK16 HR16 HB16
  (try clear x0 x1 x2 x3 x4 x5 x6 x7)
  (try clear k0 k1)
  go_wp2_with fail
  obtain ⟨x0, x1, x2, x3, x4, x5, x6, x7⟩ := BE17.out
  have hb0 := (Below.refl w17.heap.size w17).drew
  go_region_held3 (fun w' => w'.cell? ⟨w.heap.size, 0, none⟩ = some (.int .u32 e.f0.f0) ∧ w'.cell? ⟨w.heap.size, 1, none⟩ = some (.string e.f0.f1) ∧ w'.cell? ⟨w.heap.size, 2, none⟩ = some (.int .i64 e.f1) ∧ w'.cell? ⟨w.heap.size, 3, none⟩ = some (.string e.f2) ∧ w'.cell? ⟨w.heap.size, 4, none⟩ = some (.int .u64 e.f3) ∧ w'.cell? ⟨w.heap.size, 5, none⟩ = some (.string e.f4) ∧ w'.cell? ⟨w.heap.size, 6, none⟩ = some (.int .i64 e.f5) ∧ w'.cell? ⟨w.heap.size, 7, none⟩ = some (.int .i64 e.f6) ∧ Below w17.heap.size w17 w')
    (first
      | exact ⟨x0, x1, x2, x3, x4, x5, x6, x7, hb0⟩
      | (go_split_ands; refine ⟨?_, ?_, ?_, ?_, ?_, ?_, ?_, ?_, ?_⟩ <;> assumption)
      | (go_split_ands; refine ⟨cell_below hbz (by assumption), cell_below hbz (by assumption), cell_below hbz (by assumption), cell_below hbz (by assumption), cell_below hbz (by assumption), cell_below hbz (by assumption), cell_below hbz (by assumption), cell_below hbz (by assumption), below_next (by assumption) hbz⟩))
    (first
      | (go_at_call 16; go_split_ands; refine (ref_same A16 A17 d16 d17 R3.1 _ ?h1 hd16 ?h2 hd17 (by omega)).mono ?_; (case h1 => exact Kd.C_below HX16.out (by assumption)); (case h2 => exact Kd.C_below HX17.out (by assumption)); rintro _ wz ⟨rfl, hbz⟩)
      | (go_at_call 21; go_split_ands; refine (sh_entry e HOE.out be HBE.out _ (HT.out.of (below_next HB17.out (by assumption)))).mono ?_; rintro _ wz ⟨rfl, hbz⟩)
      | (go_at_call 22; go_split_ands; refine (ref_entry e HOE.out be HBE.out _).mono ?_; rintro _ wz ⟨rfl, hbz⟩)
      | (go_at_call 23; go_split_ands; refine (sh_right (some ad) c l _ (Kd.C_below HR17.out (by assumption)) hc HOK.out h1000 (HT.out.of (below_next HB17.out (by assumption)))).mono ?_; rw [HBS.out]; rintro _ wz ⟨rfl, hbz⟩)
      | (go_at_call 24; go_split_ands; refine (ref_right (some ad) c l _ (Kd.C_below HR17.out (by assumption)) hc HOK.out h1000).mono ?_; rw [HBS.out]; rintro _ wz ⟨rfl, hbz⟩))
  all_goals
    go_wp2
    go_ret
    go_split_ands
    exact ⟨by simp, below_next HB17.out (by assumption)⟩
set_option maxHeartbeats 8000000 in
set_option maxRecDepth 100000 in
theorem ShardRight_none (A : Option Addr) (c : Nat) (l : List EE) (e : EE) (q : EK) (st : Int) (w : World) (hr : Kd.C k28 w A l.length l) (hc : l.length ≤ c) (hs : shortB l = true) (hs2 : shortE e = true) (hs3 : decide (q.f1.size ≤ 300) = true) (hok : ∀ x ∈ l, Ok x) (hoe : Ok e) (hn : l.length ≤ 200) (hf : fd l q = none) (hty : TypesAt w) :
    Calls Tryd.prog 3 #[.slice A l.length c, vE e, vK q, .int .i64 st] w fun e w' => e = .returned (.bool true) ∧ Below w.heap.size w w' := by
  obtain ⟨W2, hW2⟩ : ∃ W2, W2 = (w.alloc (bxE e)).alloc (bxK q) := ⟨_, rfl⟩
  have hz2 : W2.heap.size = w.heap.size + 1 + 1 := by rw [hW2]; simp
  have BE2 : BoxE W2 w.heap.size e := by rw [hW2]; exact (BoxE.new w e).below (below_alloc _ _)
  have BK2 : BoxK W2 (w.heap.size + 1) q := by rw [hW2]; have h := BoxK.new (w.alloc (bxE e)) q; simp only [World.size_alloc] at h; exact h
  have HB2 : Below w.heap.size w W2 := by rw [hW2]; exact below_next (below_alloc _ _) (below_alloc _ _)
  have HT := Sealed.mk hty
  have HW := Sealed.mk hW2
  have HR2 := Sealed.mk (Kd.C_below hr HB2)
  have HBS2 := Sealed.mk HB2
  have BES2 := Sealed.mk BE2
  have BKS2 := Sealed.mk BK2
  clear hW2 hty hr HB2 BE2 BK2 hz2
  have HS := Sealed.mk hs
  have HS2 := Sealed.mk hs2
  have HS3 := Sealed.mk hs3
  have HOK := Sealed.mk hok
  have HOE := Sealed.mk hoe
  have HF := Sealed.mk hf
  have h1000 : l.length ≤ 1000 := by omega
  obtain ⟨R1, hR1⟩ : ∃ R, insB l e = R := ⟨_, rfl⟩
  have hl1 := insB_len l e
  rw [hR1] at hl1
  have HRS1 := Sealed.mk hR1
  clear hR1
  obtain ⟨R2, hR2⟩ : ∃ R, swpB l st e = R := ⟨_, rfl⟩
  have hl2 := swpB_len l st e
  rw [hR2] at hl2
  have HRS2 := Sealed.mk hR2
  clear hR2
  obtain ⟨R3, hR3⟩ : ∃ R, remB l q = R := ⟨_, rfl⟩
  have hl3 := remB_len l q
  rw [hR3] at hl3
  have HRS3 := Sealed.mk hR3
  clear hR3
  obtain ⟨be, hbe⟩ : ∃ b, entryB e = b := ⟨_, rfl⟩
  have HBE := Sealed.mk hbe
  obtain ⟨bs, hbs⟩ : ∃ b, shardB l = b := ⟨_, rfl⟩
  have HBS := Sealed.mk hbs
  clear hs hs2 hs3 hok hoe hf hbe hbs
  go_enter Tryd.func3, Tryd.ntmps3
  go_wp2_with fail
  rw [← HW.out]
  refine (awake10 W2 (HT.out.of HBS2.out)).mono ?_
  rintro _ w1 ⟨rfl, hb1⟩
  have BE1 := Sealed.mk (BES2.out.below hb1)
  have BK1 := Sealed.mk (BKS2.out.below hb1)
  have HR1 := Sealed.mk (Kd.C_below HR2.out hb1)
  have HB1 := Sealed.mk (below_next HBS2.out hb1)
  clear hb1 BES2 BKS2 HR2 HBS2 HW
  go_wp2_with fail
  refine (ref_short A c l true HS.out w1 HR1.out hc).mono ?_
  rintro _ w3 ⟨rfl, hb3⟩
  have BE3 := Sealed.mk (BE1.out.below hb3)
  have BK3 := Sealed.mk (BK1.out.below hb3)
  have HR3 := Sealed.mk (Kd.C_below HR1.out hb3)
  have HB3 := Sealed.mk (below_next HB1.out hb3)
  clear hb3 BE1 BK1 HR1 HB1
  (try clear x0 x1 x2 x3 x4 x5 x6 x7)
  (try clear k0 k1)
  obtain ⟨x0, x1, x2, x3, x4, x5, x6, x7⟩ := BE3.out
  go_wp2_with fail
  refine (ref_shortE e true HS2.out w3).mono ?_
  rintro _ w4 ⟨rfl, hb4⟩
  have BE4 := Sealed.mk (BE3.out.below hb4)
  have BK4 := Sealed.mk (BK3.out.below hb4)
  have HR4 := Sealed.mk (Kd.C_below HR3.out hb4)
  have HB4 := Sealed.mk (below_next HB3.out hb4)
  clear hb4 BE3 BK3 HR3 HB3
  (try clear x0 x1 x2 x3 x4 x5 x6 x7)
  (try clear k0 k1)
  obtain ⟨k0, k1⟩ := BK4.out
  go_wp2_with fail
  refine (ref_shortK q true HS3.out w4).mono ?_
  rintro _ w5 ⟨rfl, hb5⟩
  have BE5 := Sealed.mk (BE4.out.below hb5)
  have BK5 := Sealed.mk (BK4.out.below hb5)
  have HR5 := Sealed.mk (Kd.C_below HR4.out hb5)
  have HB5 := Sealed.mk (below_next HB4.out hb5)
  clear hb5 BE4 BK4 HR4 HB4
  (try clear x0 x1 x2 x3 x4 x5 x6 x7)
  (try clear k0 k1)
  obtain ⟨k0, k1⟩ := BK5.out
  go_wp2_with fail
  refine (sh_find A c l q none HF.out w5 HR5.out hc h1000).mono ?_
  rintro _ w6 ⟨rfl, hb6⟩
  have BE6 := Sealed.mk (BE5.out.below hb6)
  have BK6 := Sealed.mk (BK5.out.below hb6)
  have HR6 := Sealed.mk (Kd.C_below HR5.out hb6)
  have HB6 := Sealed.mk (below_next HB5.out hb6)
  clear hb6 BE5 BK5 HR5 HB5
  (try clear k0 k1)
  obtain ⟨k0, k1⟩ := BK6.out
  have hlt6 : w.heap.size + 1 < w6.heap.size := World.block_lt_of_cell? w6 _ k0
  go_wp2_with fail
  obtain ⟨W7, hW7⟩ : ∃ W7, W7 = w6.alloc (bxE zE) := ⟨_, rfl⟩
  rw [← hW7]
  have hb7 := below_alloc w6 (bxE zE)
  rw [← hW7] at hb7
  have BX7 : Sealed (BoxE W7 w6.heap.size zE) := ⟨by rw [hW7]; exact BoxE.new w6 zE⟩
  clear hW7 k0 k1 hlt6
  have BE7 := Sealed.mk (BE6.out.below hb7)
  have BK7 := Sealed.mk (BK6.out.below hb7)
  have HR7 := Sealed.mk (Kd.C_below HR6.out hb7)
  have HB7 := Sealed.mk (below_next HB6.out hb7)
  clear hb7 BE6 BK6 HR6 HB6
  refine (ref_place A c l q (-1) (placeI_none HF.out) W7 HR7.out hc h1000).mono ?_
  rintro _ w8 ⟨rfl, hb8⟩
  have BX8 := Sealed.mk (BX7.out.below hb8)
  clear BX7
  have BE8 := Sealed.mk (BE7.out.below hb8)
  have BK8 := Sealed.mk (BK7.out.below hb8)
  have HR8 := Sealed.mk (Kd.C_below HR7.out hb8)
  have HB8 := Sealed.mk (below_next HB7.out hb8)
  clear hb8 BE7 BK7 HR7 HB7
  (try clear k0 k1)
  have bx := BX8.out
  go_wp2_with fail
  refine wp_region_held_drew (S := fun w' => w'.cell? ⟨w6.heap.size, 0, none⟩ = some (.int .u32 0) ∧ w'.cell? ⟨w6.heap.size, 1, none⟩ = some (.string ⟨#[]⟩) ∧ w'.cell? ⟨w6.heap.size, 2, none⟩ = some (.int .i64 0) ∧ w'.cell? ⟨w6.heap.size, 3, none⟩ = some (.string ⟨#[]⟩) ∧ w'.cell? ⟨w6.heap.size, 4, none⟩ = some (.int .u64 0) ∧ w'.cell? ⟨w6.heap.size, 5, none⟩ = some (.string ⟨#[]⟩) ∧ w'.cell? ⟨w6.heap.size, 6, none⟩ = some (.int .i64 0) ∧ w'.cell? ⟨w6.heap.size, 7, none⟩ = some (.int .i64 0)) (by kernel_rfl) (⟨bx.1, bx.2.1, bx.2.2.1, bx.2.2.2.1, bx.2.2.2.2.1, bx.2.2.2.2.2.1, bx.2.2.2.2.2.2.1, bx.2.2.2.2.2.2.2⟩) (fun hHeld => ?_)
  refine wpAnyH_take (i := 0) (oi := { dst := some 40, op := Op.move (Operand.tmp 10), type := 4, pos := "law.go:35", after := #[], guard := none }) (v := ?vr2_0) rfl (by kernel_rfl) (by kernel_rfl) (by kernel_rfl) (fun _ _ _ h => h) (Or.inl ⟨by rfl, ?hyr2_0⟩) (by assumption) ?restr2_0
  case hyr2_0 => (intro wS hS; (try dsimp only at hS); go_simp; (try with_reducible rfl))
  (try simp only [Act.put, List.setIfInBounds_toArray, List.set_cons_zero, List.set_cons_succ])
  refine wpAnyH_take (i := 1) (oi := { dst := some 41, op := Op.move (Operand.tmp 11), type := 3, pos := "law.go:35", after := #[], guard := none }) (v := ?vr2_1) rfl (by kernel_rfl) (by kernel_rfl) (by kernel_rfl) (fun _ _ _ h => h) (Or.inl ⟨by rfl, ?hyr2_1⟩) (by assumption) ?restr2_1
  case hyr2_1 => (intro wS hS; (try dsimp only at hS); go_simp; (try with_reducible rfl))
  (try simp only [Act.put, List.setIfInBounds_toArray, List.set_cons_zero, List.set_cons_succ])
  refine wpAnyH_take (i := 2) (oi := { dst := some 42, op := Op.binOp BinOp.geq 3 (Operand.tmp 41) (Operand.const (Value.int IntKind.i64 0)) 3, type := 4, pos := "law.go:35", after := #[{ on := 1, ground := Ground.data }], guard := none }) (v := ?vr2_2) rfl (by kernel_rfl) (by kernel_rfl) (by kernel_rfl) (fun _ _ _ h => h) (Or.inl ⟨by rfl, ?hyr2_2⟩) (by assumption) ?restr2_2
  case hyr2_2 => (intro wS hS; (try dsimp only at hS); go_simp; (try with_reducible rfl))
  (try simp only [Act.put, List.setIfInBounds_toArray, List.set_cons_zero, List.set_cons_succ])
  refine wpAnyH_take (i := 3) (oi := { dst := some 43, op := Op.binOp BinOp.neq 4 (Operand.tmp 40) (Operand.tmp 42) 4, type := 4, pos := "law.go:35", after := #[{ on := 0, ground := Ground.data }, { on := 2, ground := Ground.data }], guard := none }) (v := ?vr2_3) rfl (by kernel_rfl) (by kernel_rfl) (by kernel_rfl) (fun _ _ _ h => h) (Or.inl ⟨by rfl, ?hyr2_3⟩) (by assumption) ?restr2_3
  case hyr2_3 => (intro wS hS; (try dsimp only at hS); go_simp; (try with_reducible rfl))
  (try simp only [Act.put, List.setIfInBounds_toArray, List.set_cons_zero, List.set_cons_succ])
  refine wpAnyH_take (i := 4) (oi := { dst := some 44, op := Op.move (Operand.tmp 43), type := 4, pos := "law.go:35", after := #[{ on := 3, ground := Ground.data }], guard := none }) (v := ?vr2_4) rfl (by kernel_rfl) (by kernel_rfl) (by kernel_rfl) (fun _ _ _ h => h) (Or.inl ⟨by rfl, ?hyr2_4⟩) (by assumption) ?restr2_4
  case hyr2_4 => (intro wS hS; (try dsimp only at hS); go_simp; (try with_reducible rfl))
  (try simp only [Act.put, List.setIfInBounds_toArray, List.set_cons_zero, List.set_cons_succ])
  refine wpAnyH_take (i := 5) (oi := { dst := some 45, op := Op.move (Operand.tmp 10), type := 4, pos := "law.go:35", after := #[{ on := 4, ground := Ground.guard }], guard := some (4, false) }) (v := ?vr2_5) rfl (by kernel_rfl) (by kernel_rfl) (by kernel_rfl) (fun _ _ _ h => h) (Or.inl ⟨by rfl, ?hyr2_5⟩) (by assumption) ?restr2_5
  case hyr2_5 => (intro wS hS; (try dsimp only at hS); go_simp; (try with_reducible rfl))
  (try simp only [Act.put, List.setIfInBounds_toArray, List.set_cons_zero, List.set_cons_succ])
  refine wpAnyH_take (i := 6) (oi := { dst := some 46, op := Op.move (Operand.tmp 45), type := 4, pos := "law.go:35", after := #[{ on := 5, ground := Ground.data }, { on := 4, ground := Ground.chain }, { on := 4, ground := Ground.guard }], guard := some (4, false) }) (v := ?vr2_6) rfl (by kernel_rfl) (by kernel_rfl) (by kernel_rfl) (fun _ _ _ h => h) (Or.inl ⟨by rfl, ?hyr2_6⟩) (by assumption) ?restr2_6
  case hyr2_6 => (intro wS hS; (try dsimp only at hS); go_simp; (try with_reducible rfl))
  (try simp only [Act.put, List.setIfInBounds_toArray, List.set_cons_zero, List.set_cons_succ])
  refine wpAnyH_take (i := 7) (oi := { dst := some 47, op := Op.load 28 (Operand.tmp 9), type := 28, pos := "law.go:35", after := #[{ on := 6, ground := Ground.guard }], guard := some (6, true) }) (v := undef) rfl (by kernel_rfl) (by kernel_rfl) (by kernel_rfl) (fun _ _ _ h => h) (Or.inr ⟨by rfl, rfl⟩) (by assumption) ?_
  (try simp only [Act.put, List.setIfInBounds_toArray, List.set_cons_zero, List.set_cons_succ])
  refine wpAnyH_take (i := 8) (oi := { dst := some 48, op := Op.move (Operand.tmp 0), type := 22, pos := "law.go:35", after := #[{ on := 6, ground := Ground.guard }], guard := some (6, true) }) (v := undef) rfl (by kernel_rfl) (by kernel_rfl) (by kernel_rfl) (fun _ _ _ h => h) (Or.inr ⟨by rfl, rfl⟩) (by assumption) ?_
  (try simp only [Act.put, List.setIfInBounds_toArray, List.set_cons_zero, List.set_cons_succ])
  refine wpAnyH_take (i := 9) (oi := { dst := some 49, op := Op.move (Operand.tmp 11), type := 3, pos := "law.go:35", after := #[{ on := 6, ground := Ground.guard }], guard := some (6, true) }) (v := undef) rfl (by kernel_rfl) (by kernel_rfl) (by kernel_rfl) (fun _ _ _ h => h) (Or.inr ⟨by rfl, rfl⟩) (by assumption) ?_
  (try simp only [Act.put, List.setIfInBounds_toArray, List.set_cons_zero, List.set_cons_succ])
  refine wpAnyH_take (i := 10) (oi := { dst := some 50, op := Op.indexAddr 22 (Operand.tmp 48) (Operand.tmp 49), type := 0, pos := "law.go:35", after := #[{ on := 8, ground := Ground.data }, { on := 9, ground := Ground.data }, { on := 6, ground := Ground.guard }], guard := some (6, true) }) (v := undef) rfl (by kernel_rfl) (by kernel_rfl) (by kernel_rfl) (fun _ _ _ h => h) (Or.inr ⟨by rfl, rfl⟩) (by assumption) ?_
  (try simp only [Act.put, List.setIfInBounds_toArray, List.set_cons_zero, List.set_cons_succ])
  refine wpAnyH_take (i := 11) (oi := { dst := some 51, op := Op.load 28 (Operand.tmp 50), type := 28, pos := "law.go:35", after := #[{ on := 10, ground := Ground.data }, { on := 6, ground := Ground.guard }], guard := some (6, true) }) (v := undef) rfl (by kernel_rfl) (by kernel_rfl) (by kernel_rfl) (fun _ _ _ h => h) (Or.inr ⟨by rfl, rfl⟩) (by assumption) ?_
  (try simp only [Act.put, List.setIfInBounds_toArray, List.set_cons_zero, List.set_cons_succ])
  refine wpAnyH_take (i := 12) (oi := { dst := some 52, op := Op.binOp BinOp.neq 28 (Operand.tmp 47) (Operand.tmp 51) 28, type := 4, pos := "law.go:35", after := #[{ on := 7, ground := Ground.data }, { on := 11, ground := Ground.data }, { on := 6, ground := Ground.guard }], guard := some (6, true) }) (v := undef) rfl (by kernel_rfl) (by kernel_rfl) (by kernel_rfl) (fun _ _ _ h => h) (Or.inr ⟨by rfl, rfl⟩) (by assumption) ?_
  (try simp only [Act.put, List.setIfInBounds_toArray, List.set_cons_zero, List.set_cons_succ])
  refine wpAnyH_take (i := 13) (oi := { dst := some 53, op := Op.pick (Operand.tmp 46) (Operand.tmp 52) (Operand.const (Value.bool false)), type := 4, pos := "law.go:35", after := #[{ on := 6, ground := Ground.data }, { on := 12, ground := Ground.data }, { on := 4, ground := Ground.guard }], guard := some (4, false) }) (v := ?vr2_13) rfl (by kernel_rfl) (by kernel_rfl) (by kernel_rfl) (fun _ _ _ h => h) (Or.inl ⟨by rfl, ?hyr2_13⟩) (by assumption) ?restr2_13
  case hyr2_13 => (intro wS hS; (try dsimp only at hS); go_simp; (try with_reducible rfl))
  (try simp only [Act.put, List.setIfInBounds_toArray, List.set_cons_zero, List.set_cons_succ])
  refine wpAnyH_take (i := 14) (oi := { dst := some 54, op := Op.pick (Operand.tmp 44) (Operand.const (Value.bool true)) (Operand.tmp 53), type := 4, pos := "law.go:35", after := #[{ on := 4, ground := Ground.data }, { on := 13, ground := Ground.data }], guard := none }) (v := ?vr2_14) rfl (by kernel_rfl) (by kernel_rfl) (by kernel_rfl) (fun _ _ _ h => h) (Or.inl ⟨by rfl, ?hyr2_14⟩) (by assumption) ?restr2_14
  case hyr2_14 => (intro wS hS; (try dsimp only at hS); go_simp; (try with_reducible rfl))
  (try simp only [Act.put, List.setIfInBounds_toArray, List.set_cons_zero, List.set_cons_succ])
  refine wpAnyH_take (i := 15) (oi := { dst := some 55, op := Op.move (Operand.tmp 54), type := 4, pos := "law.go:35", after := #[{ on := 14, ground := Ground.data }, { on := 6, ground := Ground.chain }], guard := none }) (v := ?vr2_15) rfl (by kernel_rfl) (by kernel_rfl) (by kernel_rfl) (fun _ _ _ h => h) (Or.inl ⟨by rfl, ?hyr2_15⟩) (by assumption) ?restr2_15
  case hyr2_15 => (intro wS hS; (try dsimp only at hS); go_simp; (try with_reducible rfl))
  (try simp only [Act.put, List.setIfInBounds_toArray, List.set_cons_zero, List.set_cons_succ])
  refine wpAnyH_take (i := 16) (oi := { dst := some 56, op := Op.move (Operand.tmp 10), type := 4, pos := "law.go:35", after := #[{ on := 15, ground := Ground.guard }], guard := some (15, false) }) (v := ?vr2_16) rfl (by kernel_rfl) (by kernel_rfl) (by kernel_rfl) (fun _ _ _ h => h) (Or.inl ⟨by rfl, ?hyr2_16⟩) (by assumption) ?restr2_16
  case hyr2_16 => (intro wS hS; (try dsimp only at hS); go_simp; (try with_reducible rfl))
  (try simp only [Act.put, List.setIfInBounds_toArray, List.set_cons_zero, List.set_cons_succ])
  refine wpAnyH_take (i := 17) (oi := { dst := some 57, op := Op.unOp UnOp.not 4 (Operand.tmp 56), type := 4, pos := "law.go:35", after := #[{ on := 16, ground := Ground.data }, { on := 15, ground := Ground.guard }], guard := some (15, false) }) (v := ?vr2_17) rfl (by kernel_rfl) (by kernel_rfl) (by kernel_rfl) (fun _ _ _ h => h) (Or.inl ⟨by rfl, ?hyr2_17⟩) (by assumption) ?restr2_17
  case hyr2_17 => (intro wS hS; (try dsimp only at hS); go_simp; (try with_reducible rfl))
  (try simp only [Act.put, List.setIfInBounds_toArray, List.set_cons_zero, List.set_cons_succ])
  refine wpAnyH_take (i := 18) (oi := { dst := some 58, op := Op.move (Operand.tmp 57), type := 4, pos := "law.go:35", after := #[{ on := 17, ground := Ground.data }, { on := 15, ground := Ground.chain }, { on := 15, ground := Ground.guard }], guard := some (15, false) }) (v := ?vr2_18) rfl (by kernel_rfl) (by kernel_rfl) (by kernel_rfl) (fun _ _ _ h => h) (Or.inl ⟨by rfl, ?hyr2_18⟩) (by assumption) ?restr2_18
  case hyr2_18 => (intro wS hS; (try dsimp only at hS); go_simp; (try with_reducible rfl))
  (try simp only [Act.put, List.setIfInBounds_toArray, List.set_cons_zero, List.set_cons_succ])
  refine wpAnyH_take (i := 19) (oi := { dst := some 59, op := Op.load 28 (Operand.tmp 9), type := 28, pos := "law.go:35", after := #[{ on := 18, ground := Ground.guard }], guard := some (18, true) }) (v := ?vr2_19) rfl (by kernel_rfl) (by kernel_rfl) (by kernel_rfl) (fun _ _ _ h => h) (Or.inl ⟨by rfl, ?hyr2_19⟩) (by assumption) ?restr2_19
  case hyr2_19 => (intro wS hS; (try dsimp only at hS); go_simp; (try with_reducible rfl))
  (try simp only [Act.put, List.setIfInBounds_toArray, List.set_cons_zero, List.set_cons_succ])
  refine wpAnyH_take (i := 20) (oi := { dst := some 60, op := Op.build 28 #[], type := 28, pos := "law.go:35", after := #[{ on := 18, ground := Ground.guard }], guard := some (18, true) }) (v := ?vr2_20) rfl (by kernel_rfl) (by kernel_rfl) (by kernel_rfl) (fun _ _ _ h => h) (Or.inl ⟨by rfl, ?hyr2_20⟩) (by assumption) ?restr2_20
  case hyr2_20 => (intro wS hS; (try dsimp only at hS); go_simp; (try with_reducible rfl))
  (try simp only [Act.put, List.setIfInBounds_toArray, List.set_cons_zero, List.set_cons_succ])
  refine wpAnyH_take (i := 21) (oi := { dst := some 61, op := Op.binOp BinOp.neq 28 (Operand.tmp 59) (Operand.tmp 60) 28, type := 4, pos := "law.go:35", after := #[{ on := 19, ground := Ground.data }, { on := 20, ground := Ground.data }, { on := 18, ground := Ground.guard }], guard := some (18, true) }) (v := .bool false) rfl (by kernel_rfl) (by kernel_rfl) (by kernel_rfl) (fun _ _ _ h => h) (Or.inl ⟨by rfl, ?hyr2_21⟩) (by assumption) ?restr2_21
  case hyr2_21 => (intro wS hS; (try dsimp only at hS); go_simp; (try simp))
  (try simp only [Act.put, List.setIfInBounds_toArray, List.set_cons_zero, List.set_cons_succ])
  refine wpAnyH_take (i := 22) (oi := { dst := some 62, op := Op.pick (Operand.tmp 58) (Operand.tmp 61) (Operand.const (Value.bool false)), type := 4, pos := "law.go:35", after := #[{ on := 18, ground := Ground.data }, { on := 21, ground := Ground.data }, { on := 15, ground := Ground.guard }], guard := some (15, false) }) (v := ?vr2_22) rfl (by kernel_rfl) (by kernel_rfl) (by kernel_rfl) (fun _ _ _ h => h) (Or.inl ⟨by rfl, ?hyr2_22⟩) (by assumption) ?restr2_22
  case hyr2_22 => (intro wS hS; (try dsimp only at hS); go_simp; (try with_reducible rfl))
  (try simp only [Act.put, List.setIfInBounds_toArray, List.set_cons_zero, List.set_cons_succ])
  refine wpAnyH_take (i := 23) (oi := { dst := some 63, op := Op.pick (Operand.tmp 55) (Operand.const (Value.bool true)) (Operand.tmp 62), type := 4, pos := "law.go:35", after := #[{ on := 15, ground := Ground.data }, { on := 22, ground := Ground.data }], guard := none }) (v := ?vr2_23) rfl (by kernel_rfl) (by kernel_rfl) (by kernel_rfl) (fun _ _ _ h => h) (Or.inl ⟨by rfl, ?hyr2_23⟩) (by assumption) ?restr2_23
  case hyr2_23 => (intro wS hS; (try dsimp only at hS); go_simp; (try with_reducible rfl))
  (try simp only [Act.put, List.setIfInBounds_toArray, List.set_cons_zero, List.set_cons_succ])
  refine wpAnyH_done (by kernel_rfl) ?_ _
  clear hHeld bx BX8
  obtain ⟨w9, hw9⟩ : ∃ w9, w9 = w8.drew := ⟨_, rfl⟩
  have hb9 : Below w8.heap.size w8 w9 := by rw [hw9]; exact (Below.refl _ _).drew
  rw [← hw9]
  clear hw9
  have BE9 := Sealed.mk (BE8.out.below hb9)
  have BK9 := Sealed.mk (BK8.out.below hb9)
  have HR9 := Sealed.mk (Kd.C_below HR8.out hb9)
  have HB9 := Sealed.mk (below_next HB8.out hb9)
  clear hb9 BE8 BK8 HR8 HB8
  obtain ⟨x0, x1, x2, x3, x4, x5, x6, x7⟩ := BE9.out
  go_wp2_with fail
  refine (sh_insert A c l e w9 HR9.out hc HOK.out HOE.out h1000 (HT.out.of HB9.out)).mono ?_
  rw [HRS1.out]
  rintro _ w10 ⟨A10, d10, rfl, hd10, hC10, hb10, _⟩
  have HX10 := Sealed.mk hC10
  clear hC10
  have BE10 := Sealed.mk (BE9.out.below hb10)
  have BK10 := Sealed.mk (BK9.out.below hb10)
  have HR10 := Sealed.mk (Kd.C_below HR9.out hb10)
  have HB10 := Sealed.mk (below_next HB9.out hb10)
  clear hb10 BE9 BK9 HR9 HB9
  (try clear x0 x1 x2 x3 x4 x5 x6 x7)
  (try clear k0 k1)
  obtain ⟨x0, x1, x2, x3, x4, x5, x6, x7⟩ := BE10.out
  go_wp2_with fail
  refine (ref_insert A c l e w10 HR10.out hc HOK.out HOE.out h1000).mono ?_
  rw [HRS1.out]
  rintro _ w11 ⟨A11, d11, rfl, hd11, hC11, hb11, _⟩
  have HX11 := Sealed.mk hC11
  clear hC11
  have BE11 := Sealed.mk (BE10.out.below hb11)
  have BK11 := Sealed.mk (BK10.out.below hb11)
  have HR11 := Sealed.mk (Kd.C_below HR10.out hb11)
  have HB11 := Sealed.mk (below_next HB10.out hb11)
  replace HX10 := Sealed.mk (Kd.C_below HX10.out hb11)
  clear hb11 BE10 BK10 HR10 HB10
  (try clear x0 x1 x2 x3 x4 x5 x6 x7)
  (try clear k0 k1)
  go_wp2_with fail
  refine (ref_same A10 A11 d10 d11 R1.1 w11 HX10.out hd10 HX11.out hd11 (by omega)).mono ?_
  rintro _ w12 ⟨rfl, hb12⟩
  have BE12 := Sealed.mk (BE11.out.below hb12)
  have BK12 := Sealed.mk (BK11.out.below hb12)
  have HR12 := Sealed.mk (Kd.C_below HR11.out hb12)
  have HB12 := Sealed.mk (below_next HB11.out hb12)
  clear hb12 BE11 BK11 HR11 HB11
  clear HX10 HX11
  obtain ⟨x0, x1, x2, x3, x4, x5, x6, x7⟩ := BE12.out
  go_wp2_with fail
  refine (sh_swap A c l st e w12 HR12.out hc HOK.out HOE.out h1000 (HT.out.of HB12.out)).mono ?_
  rw [HRS2.out]
  rintro _ w13 ⟨A13, d13, rfl, hd13, hC13, hb13, _⟩
  have HX13 := Sealed.mk hC13
  clear hC13
  have BE13 := Sealed.mk (BE12.out.below hb13)
  have BK13 := Sealed.mk (BK12.out.below hb13)
  have HR13 := Sealed.mk (Kd.C_below HR12.out hb13)
  have HB13 := Sealed.mk (below_next HB12.out hb13)
  clear hb13 BE12 BK12 HR12 HB12
  (try clear x0 x1 x2 x3 x4 x5 x6 x7)
  (try clear k0 k1)
  obtain ⟨x0, x1, x2, x3, x4, x5, x6, x7⟩ := BE13.out
  go_wp2_with fail
  refine (ref_swap A c l st e w13 HR13.out hc HOK.out HOE.out h1000).mono ?_
  rw [HRS2.out]
  rintro _ w14 ⟨A14, d14, rfl, hd14, hC14, hb14, _⟩
  have HX14 := Sealed.mk hC14
  clear hC14
  have BE14 := Sealed.mk (BE13.out.below hb14)
  have BK14 := Sealed.mk (BK13.out.below hb14)
  have HR14 := Sealed.mk (Kd.C_below HR13.out hb14)
  have HB14 := Sealed.mk (below_next HB13.out hb14)
  replace HX13 := Sealed.mk (Kd.C_below HX13.out hb14)
  clear hb14 BE13 BK13 HR13 HB13
  (try clear x0 x1 x2 x3 x4 x5 x6 x7)
  (try clear k0 k1)
  go_wp2_with fail
  refine (ref_same A13 A14 d13 d14 R2.1 w14 HX13.out hd13 HX14.out hd14 (by omega)).mono ?_
  rintro _ w15 ⟨rfl, hb15⟩
  have BE15 := Sealed.mk (BE14.out.below hb15)
  have BK15 := Sealed.mk (BK14.out.below hb15)
  have HR15 := Sealed.mk (Kd.C_below HR14.out hb15)
  have HB15 := Sealed.mk (below_next HB14.out hb15)
  clear hb15 BE14 BK14 HR14 HB14
  clear HX13 HX14
  obtain ⟨k0, k1⟩ := BK15.out
  go_wp2_with fail
  refine (sh_remove A c l q w15 HR15.out hc HOK.out h1000 (HT.out.of HB15.out)).mono ?_
  rw [HRS3.out]
  rintro _ w16 ⟨A16, d16, rfl, hd16, hC16, hb16, _⟩
  have HX16 := Sealed.mk hC16
  clear hC16
  have BE16 := Sealed.mk (BE15.out.below hb16)
  have BK16 := Sealed.mk (BK15.out.below hb16)
  have HR16 := Sealed.mk (Kd.C_below HR15.out hb16)
  have HB16 := Sealed.mk (below_next HB15.out hb16)
  clear hb16 BE15 BK15 HR15 HB15
  (try clear x0 x1 x2 x3 x4 x5 x6 x7)
  (try clear k0 k1)
  obtain ⟨k0, k1⟩ := BK16.out
  go_wp2_with fail
  refine (ref_remove A c l q w16 HR16.out hc HOK.out h1000).mono ?_
  rw [HRS3.out]
  rintro _ w17 ⟨A17, d17, rfl, hd17, hC17, hb17, _⟩
  have HX17 := Sealed.mk hC17
  clear hC17
  have BE17 := Sealed.mk (BE16.out.below hb17)
  have BK17 := Sealed.mk (BK16.out.below hb17)
  have HR17 := Sealed.mk (Kd.C_below HR16.out hb17)
  have HB17 := Sealed.mk (below_next HB16.out hb17)
  replace HX16 := Sealed.mk (Kd.C_below HX16.out hb17)
  clear hb17 BE16 BK16 HR16 HB16
  (try clear x0 x1 x2 x3 x4 x5 x6 x7)
  (try clear k0 k1)
  go_wp2_with fail
  obtain ⟨x0, x1, x2, x3, x4, x5, x6, x7⟩ := BE17.out
  have hb0 := (Below.refl w17.heap.size w17).drew
  go_region_held3 (fun w' => w'.cell? ⟨w.heap.size, 0, none⟩ = some (.int .u32 e.f0.f0) ∧ w'.cell? ⟨w.heap.size, 1, none⟩ = some (.string e.f0.f1) ∧ w'.cell? ⟨w.heap.size, 2, none⟩ = some (.int .i64 e.f1) ∧ w'.cell? ⟨w.heap.size, 3, none⟩ = some (.string e.f2) ∧ w'.cell? ⟨w.heap.size, 4, none⟩ = some (.int .u64 e.f3) ∧ w'.cell? ⟨w.heap.size, 5, none⟩ = some (.string e.f4) ∧ w'.cell? ⟨w.heap.size, 6, none⟩ = some (.int .i64 e.f5) ∧ w'.cell? ⟨w.heap.size, 7, none⟩ = some (.int .i64 e.f6) ∧ Below w17.heap.size w17 w')
    (first
      | exact ⟨x0, x1, x2, x3, x4, x5, x6, x7, hb0⟩
      | (go_split_ands; refine ⟨?_, ?_, ?_, ?_, ?_, ?_, ?_, ?_, ?_⟩ <;> assumption)
      | (go_split_ands; refine ⟨cell_below hbz (by assumption), cell_below hbz (by assumption), cell_below hbz (by assumption), cell_below hbz (by assumption), cell_below hbz (by assumption), cell_below hbz (by assumption), cell_below hbz (by assumption), cell_below hbz (by assumption), below_next (by assumption) hbz⟩))
    (first
      | (go_at_call 16; go_split_ands; refine (ref_same A16 A17 d16 d17 R3.1 _ ?h1 hd16 ?h2 hd17 (by omega)).mono ?_; (case h1 => exact Kd.C_below HX16.out (by assumption)); (case h2 => exact Kd.C_below HX17.out (by assumption)); rintro _ wz ⟨rfl, hbz⟩)
      | (go_at_call 21; go_split_ands; refine (sh_entry e HOE.out be HBE.out _ (HT.out.of (below_next HB17.out (by assumption)))).mono ?_; rintro _ wz ⟨rfl, hbz⟩)
      | (go_at_call 22; go_split_ands; refine (ref_entry e HOE.out be HBE.out _).mono ?_; rintro _ wz ⟨rfl, hbz⟩)
      | (go_at_call 23; go_split_ands; refine (sh_right A c l _ (Kd.C_below HR17.out (by assumption)) hc HOK.out h1000 (HT.out.of (below_next HB17.out (by assumption)))).mono ?_; rw [HBS.out]; rintro _ wz ⟨rfl, hbz⟩)
      | (go_at_call 24; go_split_ands; refine (ref_right A c l _ (Kd.C_below HR17.out (by assumption)) hc HOK.out h1000).mono ?_; rw [HBS.out]; rintro _ wz ⟨rfl, hbz⟩))
  all_goals
    go_wp2
    go_ret
    go_split_ands
    exact ⟨by simp, below_next HB17.out (by assumption)⟩
end Go.Proofs.YtkgkemihhfipaaaDoor.HK

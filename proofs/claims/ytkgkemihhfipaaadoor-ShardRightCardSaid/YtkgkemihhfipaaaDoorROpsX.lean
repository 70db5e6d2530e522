/- Packed by pack.py (this session's own program): texts of the kit's printer and of my own, what is not used struck. -/
import Derived.Test.YtkgkemihhfipaaaDoorROpsW
set_option linter.unusedVariables false
set_option linter.unusedSimpArgs false
set_option linter.unusedSectionVars false
namespace Go.Proofs.YtkgkemihhfipaaaDoor.HK
open Go.RowKit Go.Proofs.YtkgkemihhfipaaaDoorW.PrintWords Go.Proofs.YtkgkemihhfipaaaDoorW.PrintLast Go.Proofs.YtkgkemihhfipaaaDoorW.PrintMore
theorem find_at {l : List EE} {q : EK} {p : Nat} {y : EE} (hi : Inc ordK κE l) (h : At (c := ordK) (κ := κE) l q p) (hf : fd l q = some y) : l[p]? = some y ∧ y.f0 = q := by
  have h2 : fd l q = _ := At.find ordK_is l q p hi h
  rw [hf] at h2
  cases hp : l[p]? with
  | none => rw [hp] at h2; cases h2
  | some x =>
    rw [hp] at h2
    have h3 : some y = if ordK x.f0 q = 0 then some x else none := h2
    by_cases hz : ordK x.f0 q = 0
    · rw [if_pos hz] at h3
      injection h3 with h3
      subst h3
      exact ⟨rfl, (ordK_zero _ _).1 hz⟩
    · rw [if_neg hz] at h3; cases h3
theorem evs_set (l : List EE) (p : Nat) (e : EE) (hp : p < l.length) : (evs l).take (p * 8) ++ cE e ++ (evs l).drop (p * 8 + 8) = evs (l.set p e) := by
  have h8 : p * 8 + 8 = (p + 1) * 8 := by omega
  rw [h8, evs_take, evs_drop, List.set_eq_take_append_cons_drop, if_pos hp, evs_append, List.append_assoc]
  rfl
abbrev vK (q : EK) : Value := .agg #[.int .u32 q.f0, .string q.f1]
abbrev bxK (q : EK) : Obj := .cells #[.int .u32 q.f0, .string q.f1] 25
def BoxK (w : World) (g : Nat) (q : EK) : Prop := w.cell? ⟨g, 0, none⟩ = some (.int .u32 q.f0) ∧ w.cell? ⟨g, 1, none⟩ = some (.string q.f1)
theorem BoxK.new (w : World) (q : EK) : BoxK (w.alloc (bxK q)) w.heap.size q := by constructor <;> simp
theorem BoxK.below {w w' : World} {g : Nat} {q : EK} (h : BoxK w g q) (hb : Below w.heap.size w w') : BoxK w' g q := ⟨cell_below hb h.1, cell_below hb h.2⟩
theorem placeI_some {l : List EE} {q : EK} {y : EE} (h : fd l q = some y) : ∃ (p : Nat) (hp : p < l.length), placeI l q = (p : Int) ∧ placeN l q = p ∧ l[p] = y := by
  have h2 := placeN_find l q
  rw [h] at h2
  obtain ⟨hp, he⟩ := List.getElem?_eq_some_iff.1 h2.symm
  exact ⟨placeN l q, hp, by unfold placeI; rw [if_pos hp], rfl, he⟩
theorem placeI_none {l : List EE} {q : EK} (h : fd l q = none) : placeI l q = -1 := by
  have h2 := placeN_find l q
  rw [h] at h2
  unfold placeI
  rw [if_neg]
  intro hp
  rw [List.getElem?_eq_getElem hp] at h2
  cases h2
theorem ref_place (A : Option Addr) (c : Nat) (l : List EE) (q : EK) (n : Int) (hp : placeI l q = n) (w : World) (hr : Kd.C k28 w A l.length l) (hc : l.length ≤ c) (hn : l.length ≤ 1000) : Calls Tryd.prog 13 #[.slice A l.length c, vK q] w fun e w' => e = .returned (.int .i64 n) ∧ Below w.heap.size w w' := by
  subst hp
  exact paydeskref10_Place.calls 1001 A c l q.f0 q.f1 _ w hr hc (place_ev l q hn (Nat.le_refl _))
variable [digit_Fine.Has] [field_Right.Has] [deal_typeOf.Has] [paydeskref07_Order.Has]
set_option maxHeartbeats 8000000 in
set_option maxRecDepth 100000 in
theorem sh_swap (A : Option Addr) (c : Nat) (l : List EE) (st : Int) (e : EE) (w : World) (hr : Kd.C k28 w A l.length l) (hc : l.length ≤ c) (hok : ∀ x ∈ l, Ok x) (he : Ok e) (hn : l.length ≤ 1000) (hty : TypesAt w) :
    Calls Tryd.prog 17 #[.slice A l.length c, .int .i64 st, vE e] w (Gave w A (swpB l st e)) := by
  have HR := Sealed.mk hr
  have HK := Sealed.mk hok
  have HE := Sealed.mk he
  have HT := Sealed.mk hty
  clear hr hok he hty
  have HB0 := Sealed.mk (below_alloc w (bxE e))
  have hx0 := BoxE.new w e
  obtain ⟨R, hR⟩ : ∃ R, swpB l st e = R := ⟨_, rfl⟩
  rw [hR]
  have HRS := Sealed.mk hR
  clear hR
  cases hs : shardB l with
  | false =>
    have HS := Sealed.mk hs
    clear hs hx0
    go_enter Tryd.func17, Tryd.ntmps17
    go_wp2_with fail
    refine (sh_right A c l _ (Kd.C_below HR.out HB0.out) hc HK.out hn (HT.out.of HB0.out)).mono ?_
    rw [HS.out]
    rintro _ w1 ⟨rfl, hb1⟩
    go_wp2
    refine bodyPost_ret (v := .tuple #[.slice A l.length c, .int .i64 1]) (by simp [results, Tryd.results17, go_sem]) rfl ?_
    have e1 : R = (l, 1) := by rw [← HRS.out]; unfold swpB; rw [if_neg (by rw [HS.out]; simp)]
    subst e1
    exact ⟨A, c, rfl, hc, Kd.C_below HR.out (below_next HB0.out hb1), below_next HB0.out hb1, .inl rfl⟩
  | true =>
    have HS := Sealed.mk hs
    clear hs
    cases hen : entryB e with
    | false =>
      have HEN := Sealed.mk hen
      clear hen
      go_enter Tryd.func17, Tryd.ntmps17
      go_wp2_with fail
      refine (sh_right A c l _ (Kd.C_below HR.out HB0.out) hc HK.out hn (HT.out.of HB0.out)).mono ?_
      rw [HS.out]
      rintro _ w1 ⟨rfl, hb1⟩
      obtain ⟨x0, x1, x2, x3, x4, x5, x6, x7⟩ := hx0.below hb1
      have HB1 := Sealed.mk (below_next HB0.out hb1)
      clear hb1
      go_wp2_with fail
      refine (sh_entry e HE.out false HEN.out _ (HT.out.of HB1.out)).mono ?_
      rintro _ w2 ⟨rfl, hb2⟩
      go_wp2
      refine bodyPost_ret (v := .tuple #[.slice A l.length c, .int .i64 1]) (by simp [results, Tryd.results17, go_sem]) rfl ?_
      have e1 : R = (l, 1) := by rw [← HRS.out]; unfold swpB; rw [if_neg (by rw [HEN.out]; simp)]
      subst e1
      exact ⟨A, c, rfl, hc, Kd.C_below HR.out (below_next HB1.out hb2), below_next HB1.out hb2, .inl rfl⟩
    | true =>
      have HEN := Sealed.mk hen
      clear hen
      obtain ⟨hinc, h128, hall⟩ := shardB_inc HS.out
      have HI := Sealed.mk hinc
      clear hinc hall
      go_enter Tryd.func17, Tryd.ntmps17
      go_wp2_with fail
      refine (sh_right A c l _ (Kd.C_below HR.out HB0.out) hc HK.out hn (HT.out.of HB0.out)).mono ?_
      rw [HS.out]
      rintro _ w1 ⟨rfl, hb1⟩
      obtain ⟨x0, x1, x2, x3, x4, x5, x6, x7⟩ := hx0.below hb1
      have HX1 := Sealed.mk (hx0.below hb1)
      have HB1 := Sealed.mk (below_next HB0.out hb1)
      clear hb1 hx0
      go_wp2_with fail
      refine (sh_entry e HE.out true HEN.out _ (HT.out.of HB1.out)).mono ?_
      rintro _ w2 ⟨rfl, hb2⟩
      clear x0 x1 x2 x3 x4 x5 x6 x7
      obtain ⟨x0, x1, x2, x3, x4, x5, x6, x7⟩ := HX1.out.below hb2
      have HX2 := Sealed.mk (HX1.out.below hb2)
      have HB2 := Sealed.mk (below_next HB1.out hb2)
      clear hb2 HX1
      go_wp2_with fail
      refine (place_e A c l e.f0 _ (Kd.C_below HR.out HB2.out) hc hn HI.out).mono ?_
      rintro _ w3 ⟨p, hp, rfl, hb3⟩
      have hsee := seen_find HI.out hp
      have HP := Sealed.mk hp
      have hple : p ≤ l.length := hp.le
      clear x0 x1 x2 x3 x4 x5 x6 x7 hp
      obtain ⟨x0, x1, x2, x3, x4, x5, x6, x7⟩ := HX2.out.below hb3
      have HX3 := Sealed.mk (HX2.out.below hb3)
      have HB3 := Sealed.mk (below_next HB2.out hb3)
      clear hb3 HX2
      cases hfd : fd l e.f0 with
      | none =>
        rw [hsee, hfd]
        have HF := Sealed.mk hfd
        clear hfd hsee
        go_wp2
        refine bodyPost_ret (v := .tuple #[.slice A l.length c, .int .i64 5]) (by simp [results, Tryd.results17, go_sem]) rfl ?_
        have e1 : R = (l, 5) := by rw [← HRS.out]; unfold swpB; rw [if_pos ⟨HS.out, HEN.out⟩, HF.out]
        subst e1
        exact ⟨A, c, rfl, hc, Kd.C_below HR.out (HB3.out), HB3.out, .inl rfl⟩
      | some y =>
        rw [hsee, hfd]
        obtain ⟨hpy, hky⟩ := find_at HI.out HP.out hfd
        obtain ⟨hpl, hpe⟩ := List.getElem?_eq_some_iff.1 hpy
        have HF := Sealed.mk hfd
        have HPY := Sealed.mk hpy
        have HKY := Sealed.mk hky
        clear hfd hsee hpy hky
        obtain ⟨ad, rfl, c0, c1, c2, c3, c4, c5, c6, c7⟩ := at_e HR.out rfl p hpl
        rw [hpe] at c2
        replace c2 := cell_below HB3.out c2
        have HPE := Sealed.mk hpe
        clear c0 c1 c3 c4 c5 c6 c7 hpe
        have hpl' : p < l.length := hpl
        by_cases hst : y.f1 = st
        · have g1 : (y.f1 != st) = false := by simp [hst]
          have g2 : (y.f1 == st) = true := by simp [hst]
          have HST := Sealed.mk hst
          clear hst
          go_wp2_with fail
          refine (clone_e _ Anywhere (some ad) l.length c (evs l) ((rd_of_C HR.out).below HB3.out) (evs_one l) (by omega)).mono ?_
          rintro _ w4 ⟨A1, c1, rfl, hc1, hown, hb4⟩
          rcases own_row hown with ⟨_, h0, _⟩ | ⟨g, cap, hae, hgb, hgl, hrow⟩
          · omega
          injection hae with e1 e2 e3
          subst e1
          subst e3
          clear x0 x1 x2 x3 x4 x5 x6 x7
          obtain ⟨x0, x1, x2, x3, x4, x5, x6, x7⟩ := HX3.out.below hb4
          have HB4 := Sealed.mk (below_next HB3.out hb4)
          have h8 : ∀ i, i < 8 → (∃ u, w4.cell? ⟨g, p * 8 + i, none⟩ = some u) ∧ w4.frozen? ⟨g, p * 8 + i, none⟩ = false := fun i hi => ⟨Option.isSome_iff_exists.1 (hrow.cell (by have := hrow.le; have : (p + 1) * 8 ≤ c1 * 8 := Nat.mul_le_mul_right _ (by omega); omega)).1, hrow.frozen _⟩
          obtain ⟨⟨u0, d0⟩, f0⟩ := h8 0 (by omega)
          obtain ⟨⟨u1, d1⟩, f1⟩ := h8 1 (by omega)
          obtain ⟨⟨u2, d2⟩, f2⟩ := h8 2 (by omega)
          obtain ⟨⟨u3, d3⟩, f3⟩ := h8 3 (by omega)
          obtain ⟨⟨u4, d4⟩, f4⟩ := h8 4 (by omega)
          obtain ⟨⟨u5, d5⟩, f5⟩ := h8 5 (by omega)
          obtain ⟨⟨u6, d6⟩, f6⟩ := h8 6 (by omega)
          obtain ⟨⟨u7, d7⟩, f7⟩ := h8 7 (by omega)
          rw [Nat.add_zero] at d0 f0
          have HRow := Sealed.mk hrow
          have hb4s := hb4.size
          clear hb4 hrow h8 hown HX3
          go_wp2
          refine bodyPost_ret (v := .tuple #[.slice (some ⟨g, 0, none⟩) l.length c1, .int .i64 0]) (by simp [results, Tryd.results17, go_sem]) rfl ?_
          have e9 : R = (pt l e, 0) := by rw [← HRS.out]; unfold swpB; rw [if_pos ⟨HS.out, HEN.out⟩, HF.out]; exact if_pos HST.out
          have e10 : pt l e = l.set p e := At.set ordK_is l e y p HP.out HPY.out HKY.out
          have hle : p * 8 + 8 ≤ l.length * 8 := by omega
          have hset := HRow.out.set_ (p * 8) (cE e) hle
          rw [show (cE e).length = 8 from rfl, evs_set l p e hpl'] at hset
          have hg := setCells_grown w4 g (p * 8) (cE e)
          have hbe : Below w.heap.size w (w4.setCells g (p * 8) (cE e)) := HB4.out.grown hg HB4.out.size (by intro k hk; injection hk with hk; have := HB3.out.size; omega)
          show Gave w _ R _ (w4.setCells g (p * 8) (cE e))
          rw [e9, e10]
          refine ⟨some ⟨g, 0, none⟩, c1, by rw [List.length_set], by rw [List.length_set]; exact hc1, ?_, hbe, .inr fun ad he => by injection he with he; subst he; exact Nat.le_trans HB3.out.size hgb⟩
          refine C_of_rd (S := (· = g)) ?_ (by rw [List.length_set]; omega)
          rw [List.length_set]
          exact hset.rd (c := c1)
        · have g1 : (y.f1 != st) = true := by simp [hst]
          have g2 : (y.f1 == st) = false := by simp [hst]
          have HST := Sealed.mk hst
          clear hst
          go_wp2
          refine bodyPost_ret (v := .tuple #[.slice (some ad) l.length c, .int .i64 8]) (by simp [results, Tryd.results17, go_sem]) rfl ?_
          have e1 : R = (l, 8) := by rw [← HRS.out]; unfold swpB; rw [if_pos ⟨HS.out, HEN.out⟩, HF.out]; exact if_neg HST.out
          subst e1
          exact ⟨some ad, c, rfl, hc, Kd.C_below HR.out (HB3.out), HB3.out, .inl rfl⟩
set_option maxHeartbeats 8000000 in
set_option maxRecDepth 100000 in
theorem sh_remove (A : Option Addr) (c : Nat) (l : List EE) (q : EK) (w : World) (hr : Kd.C k28 w A l.length l) (hc : l.length ≤ c) (hok : ∀ x ∈ l, Ok x) (hn : l.length ≤ 1000) (hty : TypesAt w) :
    Calls Tryd.prog 19 #[.slice A l.length c, vK q] w (Gave w A (remB l q)) := by
  have HR := Sealed.mk hr
  have HK := Sealed.mk hok
  have HT := Sealed.mk hty
  clear hr hok hty
  have HB0 := Sealed.mk (below_alloc w (bxK q))
  have hx0 := BoxK.new w q
  obtain ⟨R, hR⟩ : ∃ R, remB l q = R := ⟨_, rfl⟩
  rw [hR]
  have HRS := Sealed.mk hR
  clear hR
  cases hs : shardB l with
  | false =>
    have HS := Sealed.mk hs
    clear hs hx0
    go_enter Tryd.func19, Tryd.ntmps19
    go_wp2_with fail
    refine (sh_right A c l _ (Kd.C_below HR.out HB0.out) hc HK.out hn (HT.out.of HB0.out)).mono ?_
    rw [HS.out]
    rintro _ w1 ⟨rfl, hb1⟩
    go_wp2
    refine bodyPost_ret (v := .tuple #[.slice A l.length c, .int .i64 1]) (by simp [results, Tryd.results19, go_sem]) rfl ?_
    have e1 : R = (l, 1) := by rw [← HRS.out]; unfold remB; rw [if_neg (by rw [HS.out]; simp)]
    subst e1
    exact ⟨A, c, rfl, hc, Kd.C_below HR.out (below_next HB0.out hb1), below_next HB0.out hb1, .inl rfl⟩
  | true =>
    have HS := Sealed.mk hs
    clear hs
    obtain ⟨hinc, h128, hall⟩ := shardB_inc HS.out
    have HI := Sealed.mk hinc
    clear hinc hall
    go_enter Tryd.func19, Tryd.ntmps19
    go_wp2_with fail
    refine (sh_right A c l _ (Kd.C_below HR.out HB0.out) hc HK.out hn (HT.out.of HB0.out)).mono ?_
    rw [HS.out]
    rintro _ w1 ⟨rfl, hb1⟩
    obtain ⟨x0, x1⟩ := hx0.below hb1
    have HX2 := Sealed.mk (hx0.below hb1)
    have HB2 := Sealed.mk (below_next HB0.out hb1)
    clear hb1 hx0
    go_wp2_with fail
    refine (place_e A c l q _ (Kd.C_below HR.out HB2.out) hc hn HI.out).mono ?_
    rintro _ w3 ⟨p, hp, rfl, hb3⟩
    have hsee := seen_find HI.out hp
    have HP := Sealed.mk hp
    have hple : p ≤ l.length := hp.le
    clear x0 x1 hp
    obtain ⟨x0, x1⟩ := HX2.out.below hb3
    have HX3 := Sealed.mk (HX2.out.below hb3)
    have HB3 := Sealed.mk (below_next HB2.out hb3)
    clear hb3 HX2
    cases hfd : fd l q with
    | none =>
      rw [hsee, hfd]
      have HF := Sealed.mk hfd
      clear hfd hsee
      go_wp2
      refine bodyPost_ret (v := .tuple #[.slice A l.length c, .int .i64 5]) (by simp [results, Tryd.results19, go_sem]) rfl ?_
      have e1 : R = (l, 5) := by rw [← HRS.out]; unfold remB; rw [if_pos HS.out, HF.out]
      subst e1
      exact ⟨A, c, rfl, hc, Kd.C_below HR.out (HB3.out), HB3.out, .inl rfl⟩
    | some y =>
      rw [hsee, hfd]
      obtain ⟨hpy, hky⟩ := find_at HI.out HP.out hfd
      obtain ⟨hpl, hpe⟩ := List.getElem?_eq_some_iff.1 hpy
      have HF := Sealed.mk hfd
      have HPY := Sealed.mk hpy
      have HKY := Sealed.mk hky
      clear hfd hsee hpy hky hpe
      have w1' : IntKind.wrap .i64 ((p : Int) + 1) = (p : Int) + 1 := IntWalk.i64_in _ (by omega)
      go_wp2_with fail
      refine (clone_e _ Anywhere A l.length c (evs l) ((rd_of_C HR.out).below HB3.out) (evs_one l) (by omega)).mono ?_
      rintro _ w4 ⟨A1, c1, rfl, hc1, hown, hb4⟩
      rcases own_row hown with ⟨_, h0, _⟩ | ⟨g, cap, hae, hgb, hgl, hrow⟩
      · omega
      injection hae with e1 e2 e3
      subst e1
      subst e3
      have HB4 := Sealed.mk (below_next HB3.out hb4)
      have HRow := Sealed.mk hrow
      clear hb4 hrow hown HX3 x0 x1
      go_wp2_with fail
      refine (delete_e _ g l.length c1 (evs l) HRow.out (evs_one l) p hpl).mono ?_
      rintro _ w5 ⟨rfl, hrow5, hg5⟩
      have HR5 := Sealed.mk hrow5
      have HG5 := Sealed.mk hg5
      clear hrow5 hg5
      go_wp2
      refine bodyPost_ret (v := .tuple #[.slice (some ⟨g, 0, none⟩) (l.length - 1) c1, .int .i64 0]) (by simp [results, Tryd.results19, go_sem]) rfl ?_
      have e9 : R = (dl l q, 0) := by rw [← HRS.out]; unfold remB; rw [if_pos HS.out, HF.out]
      have e10 : dl l q = l.take p ++ l.drop (p + 1) := At.del ordK_is l q y p HP.out HPY.out HKY.out
      have e11 : (l.take p ++ l.drop (p + 1)).length = l.length - 1 := by rw [List.length_append, List.length_take, List.length_drop]; omega
      have hset := HR5.out
      rw [evs_take, evs_drop, ← evs_append] at hset
      have hbe : Below w.heap.size w w5 := HB4.out.grown HG5.out HB4.out.size (by intro k hk; injection hk with hk; have := HB3.out.size; omega)
      rw [e9, e10]
      refine ⟨some ⟨g, 0, none⟩, c1, by rw [e11], by rw [e11]; omega, ?_, hbe, .inr fun ad he => by injection he with he; subst he; exact Nat.le_trans HB3.out.size hgb⟩
      refine C_of_rd (S := (· = g)) ?_ (by rw [e11]; omega)
      rw [e11]
      exact hset.rd (c := c1)
set_option maxHeartbeats 8000000 in
set_option maxRecDepth 100000 in
theorem ref_insert (A : Option Addr) (c : Nat) (l : List EE) (e : EE) (w : World) (hr : Kd.C k28 w A l.length l) (hc : l.length ≤ c) (hok : ∀ x ∈ l, Ok x) (he : Ok e) (hn : l.length ≤ 1000) :
    Calls Tryd.prog 15 #[.slice A l.length c, vE e] w (Gave w A (insB l e)) := by
  have HR := Sealed.mk hr
  have HK := Sealed.mk hok
  have HE := Sealed.mk he
  clear hr hok he
  have HB0 := Sealed.mk (below_alloc w (bxE e))
  have hx0 := BoxE.new w e
  obtain ⟨R, hR⟩ : ∃ R, insB l e = R := ⟨_, rfl⟩
  rw [hR]
  have HRS := Sealed.mk hR
  clear hR
  cases hs : shardB l with
  | false =>
    have HS := Sealed.mk hs
    clear hs hx0
    go_enter Tryd.func15, Tryd.ntmps15
    go_wp2_with fail
    refine (ref_right A c l _ (Kd.C_below HR.out HB0.out) hc HK.out hn).mono ?_
    rw [HS.out]
    rintro _ w1 ⟨rfl, hb1⟩
    go_wp2
    refine bodyPost_ret (v := .tuple #[.slice A l.length c, .int .i64 1]) (by simp [results, Tryd.results15, go_sem]) rfl ?_
    have e1 : R = (l, 1) := by rw [← HRS.out]; unfold insB; rw [if_neg (by rw [HS.out]; simp)]
    subst e1
    exact ⟨A, c, rfl, hc, Kd.C_below HR.out (below_next HB0.out hb1), below_next HB0.out hb1, .inl rfl⟩
  | true =>
    have HS := Sealed.mk hs
    clear hs
    cases hen : entryB e with
    | false =>
      have HEN := Sealed.mk hen
      clear hen
      go_enter Tryd.func15, Tryd.ntmps15
      go_wp2_with fail
      refine (ref_right A c l _ (Kd.C_below HR.out HB0.out) hc HK.out hn).mono ?_
      rw [HS.out]
      rintro _ w1 ⟨rfl, hb1⟩
      obtain ⟨x0, x1, x2, x3, x4, x5, x6, x7⟩ := hx0.below hb1
      have HB1 := Sealed.mk (below_next HB0.out hb1)
      clear hb1
      go_wp2_with fail
      refine (ref_entry e HE.out false HEN.out _).mono ?_
      rintro _ w2 ⟨rfl, hb2⟩
      go_wp2
      refine bodyPost_ret (v := .tuple #[.slice A l.length c, .int .i64 1]) (by simp [results, Tryd.results15, go_sem]) rfl ?_
      have e1 : R = (l, 1) := by rw [← HRS.out]; unfold insB; rw [if_neg (by rw [HEN.out]; simp)]
      subst e1
      exact ⟨A, c, rfl, hc, Kd.C_below HR.out (below_next HB1.out hb2), below_next HB1.out hb2, .inl rfl⟩
    | true =>
      have HEN := Sealed.mk hen
      clear hen
      obtain ⟨hinc, h128, hall⟩ := shardB_inc HS.out
      have HI := Sealed.mk hinc
      clear hinc hall
      go_enter Tryd.func15, Tryd.ntmps15
      go_wp2_with fail
      refine (ref_right A c l _ (Kd.C_below HR.out HB0.out) hc HK.out hn).mono ?_
      rw [HS.out]
      rintro _ w1 ⟨rfl, hb1⟩
      obtain ⟨x0, x1, x2, x3, x4, x5, x6, x7⟩ := hx0.below hb1
      have HX1 := Sealed.mk (hx0.below hb1)
      have HB1 := Sealed.mk (below_next HB0.out hb1)
      clear hb1 hx0
      go_wp2_with fail
      refine (ref_entry e HE.out true HEN.out _).mono ?_
      rintro _ w2 ⟨rfl, hb2⟩
      clear x0 x1 x2 x3 x4 x5 x6 x7
      obtain ⟨x0, x1, x2, x3, x4, x5, x6, x7⟩ := HX1.out.below hb2
      have HX2 := Sealed.mk (HX1.out.below hb2)
      have HB2 := Sealed.mk (below_next HB1.out hb2)
      clear hb2 HX1
      go_wp2_with fail
      cases hfd : fd l e.f0 with
      | none =>
        have HF := Sealed.mk hfd
        refine (ref_place A c l e.f0 (-1) (placeI_none hfd) _ (Kd.C_below HR.out HB2.out) hc hn).mono ?_
        rintro _ w3 ⟨rfl, hb3⟩
        clear x0 x1 x2 x3 x4 x5 x6 x7 hfd
        obtain ⟨x0, x1, x2, x3, x4, x5, x6, x7⟩ := HX2.out.below hb3
        have HB3 := Sealed.mk (below_next HB2.out hb3)
        clear hb3 HX2
        by_cases hfull : l.length = 128
        · have g1 : ((l.length : Int) == 128) = true := by simp; omega
          have HFL := Sealed.mk hfull
          clear hfull
          go_wp2
          refine bodyPost_ret (v := .tuple #[.slice A l.length c, .int .i64 7]) (by simp [results, Tryd.results15, go_sem]) rfl ?_
          have e1 : R = (l, 7) := by rw [← HRS.out]; unfold insB; rw [if_pos ⟨HS.out, HEN.out⟩, HF.out]; exact if_pos HFL.out
          subst e1
          exact ⟨A, c, rfl, hc, Kd.C_below HR.out (HB3.out), HB3.out, .inl rfl⟩
        · have g1 : ((l.length : Int) == 128) = false := by simp; omega
          have HFL := Sealed.mk hfull
          clear hfull
          go_wp2_with fail
          refine (paydeskref10_put.calls 2002 _ c l e.f0.f0 e.f0.f1 e.f1 e.f2 e.f3 e.f4 e.f5 e.f6 (pt l e) _ (Kd.C_below HR.out HB3.out) hc (put10_ev l e hn HI.out (Nat.le_refl _))).mono ?_
          rintro _ w4 ⟨v4, rfl, hR4, hb4⟩
          obtain ⟨A2, c2, rfl, hc2, hC2⟩ := Kd.R_reads hR4
          go_wp2
          refine bodyPost_ret (v := .tuple #[.slice A2 (pt l e).length c2, .int .i64 0]) (by simp [results, Tryd.results15, go_sem]) rfl ?_
          have e9 : R = (pt l e, 0) := by rw [← HRS.out]; unfold insB; rw [if_pos ⟨HS.out, HEN.out⟩, HF.out]; exact if_neg HFL.out
          rw [e9]
          exact ⟨A2, c2, rfl, hc2, hC2, below_next HB3.out hb4, .inr fun ad he => by subst he; exact Nat.le_trans HB3.out.size ((Kd.R_bound hR4).1 ad.block rfl).2.1⟩
      | some y =>
        have HF := Sealed.mk hfd
        obtain ⟨p, hpl, hpI, _, hpe⟩ := placeI_some hfd
        refine (ref_place A c l e.f0 p hpI _ (Kd.C_below HR.out HB2.out) hc hn).mono ?_
        rintro _ w3 ⟨rfl, hb3⟩
        clear x0 x1 x2 x3 x4 x5 x6 x7 hfd hpI
        obtain ⟨x0, x1, x2, x3, x4, x5, x6, x7⟩ := HX2.out.below hb3
        have HB3 := Sealed.mk (below_next HB2.out hb3)
        clear hb3 HX2
        go_wp2
        refine bodyPost_ret (v := .tuple #[.slice A l.length c, .int .i64 6]) (by simp [results, Tryd.results15, go_sem]) rfl ?_
        have e1 : R = (l, 6) := by rw [← HRS.out]; unfold insB; rw [if_pos ⟨HS.out, HEN.out⟩, HF.out]
        subst e1
        exact ⟨A, c, rfl, hc, Kd.C_below HR.out (HB3.out), HB3.out, .inl rfl⟩
set_option maxHeartbeats 8000000 in
set_option maxRecDepth 100000 in
theorem ref_swap (A : Option Addr) (c : Nat) (l : List EE) (st : Int) (e : EE) (w : World) (hr : Kd.C k28 w A l.length l) (hc : l.length ≤ c) (hok : ∀ x ∈ l, Ok x) (he : Ok e) (hn : l.length ≤ 1000) :
    Calls Tryd.prog 18 #[.slice A l.length c, .int .i64 st, vE e] w (Gave w A (swpB l st e)) := by
  have HR := Sealed.mk hr
  have HK := Sealed.mk hok
  have HE := Sealed.mk he
  clear hr hok he
  have HB0 := Sealed.mk (below_alloc w (bxE e))
  have hx0 := BoxE.new w e
  obtain ⟨R, hR⟩ : ∃ R, swpB l st e = R := ⟨_, rfl⟩
  rw [hR]
  have HRS := Sealed.mk hR
  clear hR
  cases hs : shardB l with
  | false =>
    have HS := Sealed.mk hs
    clear hs hx0
    go_enter Tryd.func18, Tryd.ntmps18
    go_wp2_with fail
    refine (ref_right A c l _ (Kd.C_below HR.out HB0.out) hc HK.out hn).mono ?_
    rw [HS.out]
    rintro _ w1 ⟨rfl, hb1⟩
    go_wp2
    refine bodyPost_ret (v := .tuple #[.slice A l.length c, .int .i64 1]) (by simp [results, Tryd.results18, go_sem]) rfl ?_
    have e1 : R = (l, 1) := by rw [← HRS.out]; unfold swpB; rw [if_neg (by rw [HS.out]; simp)]
    subst e1
    exact ⟨A, c, rfl, hc, Kd.C_below HR.out (below_next HB0.out hb1), below_next HB0.out hb1, .inl rfl⟩
  | true =>
    have HS := Sealed.mk hs
    clear hs
    cases hen : entryB e with
    | false =>
      have HEN := Sealed.mk hen
      clear hen
      go_enter Tryd.func18, Tryd.ntmps18
      go_wp2_with fail
      refine (ref_right A c l _ (Kd.C_below HR.out HB0.out) hc HK.out hn).mono ?_
      rw [HS.out]
      rintro _ w1 ⟨rfl, hb1⟩
      obtain ⟨x0, x1, x2, x3, x4, x5, x6, x7⟩ := hx0.below hb1
      have HB1 := Sealed.mk (below_next HB0.out hb1)
      clear hb1
      go_wp2_with fail
      refine (ref_entry e HE.out false HEN.out _).mono ?_
      rintro _ w2 ⟨rfl, hb2⟩
      go_wp2
      refine bodyPost_ret (v := .tuple #[.slice A l.length c, .int .i64 1]) (by simp [results, Tryd.results18, go_sem]) rfl ?_
      have e1 : R = (l, 1) := by rw [← HRS.out]; unfold swpB; rw [if_neg (by rw [HEN.out]; simp)]
      subst e1
      exact ⟨A, c, rfl, hc, Kd.C_below HR.out (below_next HB1.out hb2), below_next HB1.out hb2, .inl rfl⟩
    | true =>
      have HEN := Sealed.mk hen
      clear hen
      obtain ⟨hinc, h128, hall⟩ := shardB_inc HS.out
      have HI := Sealed.mk hinc
      clear hinc hall
      go_enter Tryd.func18, Tryd.ntmps18
      go_wp2_with fail
      refine (ref_right A c l _ (Kd.C_below HR.out HB0.out) hc HK.out hn).mono ?_
      rw [HS.out]
      rintro _ w1 ⟨rfl, hb1⟩
      obtain ⟨x0, x1, x2, x3, x4, x5, x6, x7⟩ := hx0.below hb1
      have HX1 := Sealed.mk (hx0.below hb1)
      have HB1 := Sealed.mk (below_next HB0.out hb1)
      clear hb1 hx0
      go_wp2_with fail
      refine (ref_entry e HE.out true HEN.out _).mono ?_
      rintro _ w2 ⟨rfl, hb2⟩
      clear x0 x1 x2 x3 x4 x5 x6 x7
      obtain ⟨x0, x1, x2, x3, x4, x5, x6, x7⟩ := HX1.out.below hb2
      have HX2 := Sealed.mk (HX1.out.below hb2)
      have HB2 := Sealed.mk (below_next HB1.out hb2)
      clear hb2 HX1
      go_wp2_with fail
      cases hfd : fd l e.f0 with
      | none =>
        have HF := Sealed.mk hfd
        refine (ref_place A c l e.f0 (-1) (placeI_none hfd) _ (Kd.C_below HR.out HB2.out) hc hn).mono ?_
        rintro _ w3 ⟨rfl, hb3⟩
        clear x0 x1 x2 x3 x4 x5 x6 x7 hfd
        obtain ⟨x0, x1, x2, x3, x4, x5, x6, x7⟩ := HX2.out.below hb3
        have HB3 := Sealed.mk (below_next HB2.out hb3)
        clear hb3 HX2
        go_wp2
        refine bodyPost_ret (v := .tuple #[.slice A l.length c, .int .i64 5]) (by simp [results, Tryd.results18, go_sem]) rfl ?_
        have e1 : R = (l, 5) := by rw [← HRS.out]; unfold swpB; rw [if_pos ⟨HS.out, HEN.out⟩, HF.out]
        subst e1
        exact ⟨A, c, rfl, hc, Kd.C_below HR.out (HB3.out), HB3.out, .inl rfl⟩
      | some y =>
        have HF := Sealed.mk hfd
        obtain ⟨p, hpl, hpI, _, hpe⟩ := placeI_some hfd
        refine (ref_place A c l e.f0 p hpI _ (Kd.C_below HR.out HB2.out) hc hn).mono ?_
        rintro _ w3 ⟨rfl, hb3⟩
        clear x0 x1 x2 x3 x4 x5 x6 x7 hfd hpI
        obtain ⟨x0, x1, x2, x3, x4, x5, x6, x7⟩ := HX2.out.below hb3
        have HB3 := Sealed.mk (below_next HB2.out hb3)
        clear hb3 HX2
        obtain ⟨ad, rfl, c0, c1, c2, c3, c4, c5, c6, c7⟩ := at_e HR.out rfl p hpl
        rw [hpe] at c2
        replace c2 := cell_below HB3.out c2
        have HPE := Sealed.mk hpe
        clear c0 c1 c3 c4 c5 c6 c7 hpe
        have hpl' : p < l.length := hpl
        by_cases hst : y.f1 = st
        · have g1 : (y.f1 != st) = false := by simp [hst]
          have g2 : (y.f1 == st) = true := by simp [hst]
          have HST := Sealed.mk hst
          clear hst
          go_wp2_with fail
          refine (paydeskref10_put.calls 2002 _ c l e.f0.f0 e.f0.f1 e.f1 e.f2 e.f3 e.f4 e.f5 e.f6 (pt l e) _ (Kd.C_below HR.out HB3.out) hc (put10_ev l e hn HI.out (Nat.le_refl _))).mono ?_
          rintro _ w4 ⟨v4, rfl, hR4, hb4⟩
          obtain ⟨A2, c2, rfl, hc2, hC2⟩ := Kd.R_reads hR4
          go_wp2
          refine bodyPost_ret (v := .tuple #[.slice A2 (pt l e).length c2, .int .i64 0]) (by simp [results, Tryd.results18, go_sem]) rfl ?_
          have e9 : R = (pt l e, 0) := by rw [← HRS.out]; unfold swpB; rw [if_pos ⟨HS.out, HEN.out⟩, HF.out]; exact if_pos HST.out
          rw [e9]
          exact ⟨A2, c2, rfl, hc2, hC2, below_next HB3.out hb4, .inr fun ad he => by subst he; exact Nat.le_trans HB3.out.size ((Kd.R_bound hR4).1 ad.block rfl).2.1⟩
        · have g1 : (y.f1 != st) = true := by simp [hst]
          have g2 : (y.f1 == st) = false := by simp [hst]
          have HST := Sealed.mk hst
          clear hst
          go_wp2
          refine bodyPost_ret (v := .tuple #[.slice (some ad) l.length c, .int .i64 8]) (by simp [results, Tryd.results18, go_sem]) rfl ?_
          have e1 : R = (l, 8) := by rw [← HRS.out]; unfold swpB; rw [if_pos ⟨HS.out, HEN.out⟩, HF.out]; exact if_neg HST.out
          subst e1
          exact ⟨some ad, c, rfl, hc, Kd.C_below HR.out (HB3.out), HB3.out, .inl rfl⟩
set_option maxHeartbeats 8000000 in
set_option maxRecDepth 100000 in
theorem ref_remove (A : Option Addr) (c : Nat) (l : List EE) (q : EK) (w : World) (hr : Kd.C k28 w A l.length l) (hc : l.length ≤ c) (hok : ∀ x ∈ l, Ok x) (hn : l.length ≤ 1000) :
    Calls Tryd.prog 20 #[.slice A l.length c, vK q] w (Gave w A (remB l q)) := by
  have HR := Sealed.mk hr
  have HK := Sealed.mk hok
  clear hr hok
  have HB0 := Sealed.mk (below_alloc w (bxK q))
  have hx0 := BoxK.new w q
  obtain ⟨R, hR⟩ : ∃ R, remB l q = R := ⟨_, rfl⟩
  rw [hR]
  have HRS := Sealed.mk hR
  clear hR
  cases hs : shardB l with
  | false =>
    have HS := Sealed.mk hs
    clear hs hx0
    go_enter Tryd.func20, Tryd.ntmps20
    go_wp2_with fail
    refine (ref_right A c l _ (Kd.C_below HR.out HB0.out) hc HK.out hn).mono ?_
    rw [HS.out]
    rintro _ w1 ⟨rfl, hb1⟩
    go_wp2
    refine bodyPost_ret (v := .tuple #[.slice A l.length c, .int .i64 1]) (by simp [results, Tryd.results20, go_sem]) rfl ?_
    have e1 : R = (l, 1) := by rw [← HRS.out]; unfold remB; rw [if_neg (by rw [HS.out]; simp)]
    subst e1
    exact ⟨A, c, rfl, hc, Kd.C_below HR.out (below_next HB0.out hb1), below_next HB0.out hb1, .inl rfl⟩
  | true =>
    have HS := Sealed.mk hs
    clear hs
    obtain ⟨hinc, h128, hall⟩ := shardB_inc HS.out
    have HI := Sealed.mk hinc
    clear hinc hall
    go_enter Tryd.func20, Tryd.ntmps20
    go_wp2_with fail
    refine (ref_right A c l _ (Kd.C_below HR.out HB0.out) hc HK.out hn).mono ?_
    rw [HS.out]
    rintro _ w1 ⟨rfl, hb1⟩
    obtain ⟨x0, x1⟩ := hx0.below hb1
    have HX2 := Sealed.mk (hx0.below hb1)
    have HB2 := Sealed.mk (below_next HB0.out hb1)
    clear hb1 hx0
    go_wp2_with fail
    cases hfd : fd l q with
    | none =>
      have HF := Sealed.mk hfd
      refine (ref_place A c l q (-1) (placeI_none hfd) _ (Kd.C_below HR.out HB2.out) hc hn).mono ?_
      rintro _ w3 ⟨rfl, hb3⟩
      have HB3 := Sealed.mk (below_next HB2.out hb3)
      clear hb3 HX2 hfd x0 x1
      go_wp2
      refine bodyPost_ret (v := .tuple #[.slice A l.length c, .int .i64 5]) (by simp [results, Tryd.results20, go_sem]) rfl ?_
      have e1 : R = (l, 5) := by rw [← HRS.out]; unfold remB; rw [if_pos HS.out, HF.out]
      subst e1
      exact ⟨A, c, rfl, hc, Kd.C_below HR.out (HB3.out), HB3.out, .inl rfl⟩
    | some y =>
      have HF := Sealed.mk hfd
      obtain ⟨p, hpl, hpI, hpN, hpe⟩ := placeI_some hfd
      refine (ref_place A c l q p hpI _ (Kd.C_below HR.out HB2.out) hc hn).mono ?_
      rintro _ w3 ⟨rfl, hb3⟩
      have HB3 := Sealed.mk (below_next HB2.out hb3)
      have HPN := Sealed.mk hpN
      clear hb3 HX2 hfd x0 x1 hpI hpe hpN
      have w1' : IntKind.wrap .i64 ((p : Int) + 1) = (p : Int) + 1 := IntWalk.i64_in _ (by omega)
      have b0 : (0 : Int) ≤ (p : Int) + 1 := by omega
      have b1 : (p : Int) + 1 ≤ (l.length : Int) := by omega
      have b2 : p ≤ c := by omega
      have hrd := (rd_of_C HR.out).below HB3.out
      have hr1 := Sealed.mk (hrd.head (k := p) (by omega))
      have hr2 := Sealed.mk (hrd.cut (k := p + 1) (by omega) hc)
      have hone := evs_one l
      clear hrd
      go_wp2_with fail
      go_region_law (first
        | (refine step_append_any _ rfl (.tmp 17) (.tmp 20) 22 rfl w3.heap.size 28 _ 8 88 Tryd.underlying22 info28 rfl (by omega) _ 0 [] (by simp [Act.eval, Act.put]) (own_new w3 _ 8) Anywhere A p c ((evs l).take (p * 8)) (by simp [Act.eval, Act.put]) (hr1.out.below (below_alloc w3 _).drew) (fun u hu => hone u (List.mem_of_mem_take hu)) (by simp only [maxLen]; omega) (by omega) (by simp) ?_; intro A1 c1 w5 hc1 hown1 hg1 hat1; have hb5 : Below w3.heap.size w3 w5 := ((below_alloc w3 (.cells #[] 28)).drew).grown hg1 (by simp) (by intro k hk; injection hk with hk; exact Nat.le_of_eq hk))
        | (refine step_append_any _ rfl (.tmp 21) (.tmp 25) 22 rfl w3.heap.size 28 _ 8 88 Tryd.underlying22 info28 rfl (by omega) _ (0 + p) _ (by simp [Act.eval, Act.put]) hown1 Anywhere _ (l.length - (p + 1)) (c - (p + 1)) ((evs l).drop ((p + 1) * 8)) (by simp [Act.eval, Act.put]) (hr2.out.below hb5) (fun u hu => hone u (List.mem_of_mem_drop hu)) (by simp only [maxLen]; omega) (by omega) hb5.size ?_; intro A2 c2 w6 hc2 hown2 hg2 hat2))
      have HO2 := Sealed.mk hown2
      have HG2 := Sealed.mk hg2
      have HL1 := Sealed.mk (own_base hown1)
      clear hown1 hown2 hg1 hg2 hat1 hat2
      go_wp2
      all_goals
        have e00 : p + (l.length - (p + 1)) = l.length - 1 := by omega
        have e0 : 0 + p + (l.length - (p + 1)) = l.length - 1 := by omega
        have e9 : R = (dl l q, 0) := by rw [← HRS.out]; unfold remB; rw [if_pos HS.out, HF.out]
        have e10 : dl l q = l.take p ++ l.drop (p + 1) := by have h := placeN_del l q (by rw [HPN.out]; exact hpl); rw [HPN.out] at h; exact h
        have e11 : (l.take p ++ l.drop (p + 1)).length = l.length - 1 := by rw [List.length_append, List.length_take, List.length_drop]; omega
        have hset := HO2.out
        rw [e0] at hset hc2
        rw [List.nil_append, evs_take, evs_drop, ← evs_append] at hset
        refine bodyPost_ret (v := .tuple #[.slice A2 (l.length - 1) c2, .int .i64 0]) (by simp [results, Tryd.results20, go_sem, e00]) rfl ?_
        have hbe : Below w3.heap.size w3 w6 := hb5.grown HG2.out hb5.size HL1.out
        rw [e9, e10]
        refine ⟨A2, c2, by rw [e11], by rw [e11]; exact hc2, ?_, below_next HB3.out hbe, Far.own hset HB3.out.size⟩
        refine C_of_rd (S := fun k => w3.heap.size ≤ k ∧ k < w6.heap.size) ?_ (by rw [e11]; omega)
        rw [e11]
        exact Rd.of_own hset
end Go.Proofs.YtkgkemihhfipaaaDoor.HK

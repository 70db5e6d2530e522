/- FrameParts: the walk. -/
import Derived.Test.YtkpabmhijpnchaaFrameH
import Derived.OpenShut
set_option linter.unusedVariables false
set_option linter.unusedSimpArgs false
namespace Go.Proofs.Ytkpabmhijpnchaa
open Go.RowKit
theorem frames_take {L : List (List UInt8)} {k : Nat} (h : k < L.length) : frames (L.take (k + 1)) = frames (L.take k) ++ frameOf L[k] := by
  rw [List.take_succ_eq_append_getElem h, frames_append, frames_one]
theorem append_wanted {P : Program} {w : World} {ops : Array Oper} {rest : List Oper} {o : Oper} {a : Act} {Q : Exit → Act → World → Prop} (hgd : Region.wanted o (yielded ops a.tmps) = true) (s x : Operand) (t : TypeId)
    (ho : o.op = .call { callee := .builtin .append, args := #[s, x], argTypes := #[t, t] })
    (base : Nat) (e : TypeId) (z : Value) (size bytes : Nat) (ht : P.underlying t = some (.slice e)) (hinfo : (P.info? e).map (fun i => (i.zero, i.size, i.bytes)) = some (some z, size, bytes))
    (hzs : z.cells.size = size) (hsz : 0 < size)
    (v : Value) (n : Nat) (xs : List Value) (hs : a.eval s = v) (hown : w.ownsRow base e size v n xs)
    (S : Nat → Prop) (A : Option Addr) (m c : Nat) (news : List Value) (hx : a.eval x = .slice A m c) (hr : Rd w S size A m news) (h1 : ∀ u ∈ news, u.oneCell' = true)
    (h63 : n + m ≤ maxLen) (hbytes : (n + m) * bytes ≤ 140737488355328) (hbase : base ≤ w.heap.size)
    (h : ∀ A' c' w', n + m ≤ c' → w'.ownsRow base e size (.slice A' (n + m) c') (n + m) (xs ++ news) → w.grownBy w' v.ownBlock → ((Value.slice A' (n + m) c').ownBlock = v.ownBlock ∨ (Value.slice A' (n + m) c').ownBlock = some w.heap.size) → wpList P ops Q rest (a.put o.dst (.slice A' (n + m) c')) w') : wpList P ops Q (o :: rest) a w :=
  wpList_step fun K hK => by
    rw [if_pos hgd]
    exact wp_append_any w s x t ho base e z size bytes ht hinfo hzs hsz v n xs hs hown S A m c news hx hr h1 h63 hbytes hbase fun A' c' w' hc' h2 h3 h4 => hK _ _ (h A' c' w' hc' h2 h3 h4)
theorem path_cells {w wz : World} {o : Obj} {u v : Value} {t : TypeId} (h : Below ((w.alloc o).alloc (.cells #[u, v] t)).drew.heap.size ((w.alloc o).alloc (.cells #[u, v] t)).drew wz) : Cell wz (w.heap.size + 1) 0 u ∧ Cell wz (w.heap.size + 1) 1 v :=
  ⟨Cell.below ⟨by simp, by simp⟩ h, Cell.below ⟨by simp, by simp⟩ h⟩
set_option maxHeartbeats 4000000 in
set_option maxRecDepth 100000 in
theorem FrameParts_true (w : World) (A : Option Addr) (c : Nat) (L : List (List UInt8)) (cut : Int) (hL : Rd2 w Anywhere A L) (hc : L.length ≤ c) (hm : L.length ≤ maxLen) (hcut : (Lit.int .u16 cut).wf = true) :
    Calls Try.prog 7 #[.slice A L.length c, .int .u16 cut] w fun e w' => e = .returned (.bool true) ∧ Below w.heap.size w w' := by
  obtain ⟨hcut0, hcut1⟩ := bounds_u16 hcut
  obtain ⟨cn, rfl⟩ : ∃ n : Nat, cut = (n : Int) := ⟨cut.toNat, by omega⟩
  have HL := Sealed.mk hL
  clear hL hcut
  go_enter Try.func7, Try.ntmps7
  go_wp2_with fail
  refine (awake05 _).mono ?_
  rintro e w1 ⟨rfl, hb1⟩
  by_cases h10 : 10 < L.length
  · have g10 : (10 : Int) < (L.length : Int) := by omega
    clear h10
    go_wp2_with fail
    go_ret
    exact ⟨rfl, hb1⟩
  · have g10 : ¬ (10 : Int) < (L.length : Int) := by omega
    have h10' : L.length ≤ 10 := by omega
    clear h10
    go_wp2_with fail
    go_loopw [5, 6] (fun v i wr => ∃ k n A1 c1, k ≤ L.length ∧ i = .int .i64 (k : Nat) ∧ v = .slice A1 n c1 ∧ Sealed ((frames (L.take k)).length = n) ∧ Sealed (wr.ownsRow w.heap.size 5 1 v n (bv (frames (L.take k)))) ∧ Sealed (∀ x ∈ L.take k, 0 < x.length ∧ x.length ≤ 300) ∧ Below w.heap.size w wr) (fun _ i _ => L.length - (intOf i).toNat)
    case atStart => exact ⟨0, 0, none, 0, Nat.zero_le _, rfl, rfl, ⟨rfl⟩, ⟨World.ownsRow_nil _ _ _ _⟩, ⟨by simp⟩, hb1⟩
    case round =>
      obtain ⟨k, n, A1, c1, hk, rfl, rfl, hn, hown, hall, hbr⟩ := hrel
      by_cases hlt : k < L.length
      · obtain ⟨ad, A2, c2, rfl, hcell, hc2, hr2⟩ := (HL.out.below hbr).at_ hlt
        have HR2 := Sealed.mk hr2
        clear hr2
        have hx3 : n ≤ 3020 := by
          have h1 := frames_length (L.take k) fun x hx => (hall.out x hx).2
          have h2 : (L.take k).length ≤ k := List.length_take_le _ _
          rw [hn.out] at h1
          omega
        by_cases hz : L[k].length = 0
        · have g1 : ((L[k].length : Int) == 0) = true := by simp [hz]
          clear hz
          go_wp2_with fail
          go_ret
          exact ⟨rfl, hbr⟩
        · have g1 : ((L[k].length : Int) == 0) = false := by simp; intro h; exact hz (by rw [h]; rfl)
          by_cases h3 : 300 < L[k].length
          · have g3 : (300 : Int) < (L[k].length : Int) := by omega
            clear hz
            go_wp2_with fail
            go_ret
            exact ⟨rfl, hbr⟩
          · have g3 : ¬ (300 : Int) < (L[k].length : Int) := by omega
            have hz' : 0 < L[k].length := by omega
            clear hz
            go_wp2_with fail
            refine (frame_Put_ok _ Anywhere A2 c2 L[k] HR2.out hz' (by omega)).mono ?_
            rintro e w3 ⟨⟨A3, c3, rfl, ho3⟩, hb3⟩
            have hr3 : Rd w3 Anywhere 1 A3 (L[k].length + 2) (bv (frameOf L[k])) := own_rd ho3 rfl
            have HR3 := Sealed.mk hr3
            clear ho3 hr3
            go_wp2_with (at_builtin; refine wpList_append_any _ rfl (.tmp 54) (.tmp 55) _ rfl w.heap.size 5 _ 1 1 Try.underlying25 u8_info rfl (by omega) (.slice A1 n c1) n (bv (frames (L.take k))) rfl (own_below hown.out hb3) Anywhere A3 (L[k].length + 2) c3 (bv (frameOf L[k])) rfl HR3.out ?h1 ?h2 ?h3 ?h4 ?_; (case h1 => exact bv_one _); (case h2 => simp only [maxLen]; omega); (case h3 => omega); (case h4 => have h1 := hbr.size; have h2 := hb3.size; omega); intro A5 c5 w5 hc5 ho5 hg5 hat5; have hb5 : Below w.heap.size w w5 := (hbr.trans (hb3.mono hbr.size)).grown hg5 (by have h1 := hbr.size; have h2 := hb3.size; omega) (own_base hown.out))
            have e1 := frames_take hlt
            have E1 := Sealed.mk e1
            clear e1
            go_roundw
            case rel =>
              refine ⟨k + 1, _, A5, c5, by omega, by go_num, rfl, ⟨?_⟩, ⟨?_⟩, ⟨?_⟩, hb5⟩
              · rw [E1.out, List.length_append, hn.out, frameOf_length]
              · rw [E1.out, bv_append]; exact ho5
              · intro x hx
                rw [List.take_succ_eq_append_getElem hlt, List.mem_append] at hx
                rcases hx with hx | hx
                · exact hall.out x hx
                · simp only [List.mem_singleton] at hx
                  subst hx
                  omega
            case measure => simp [intOf]; omega
      · have hk2 : k = L.length := by omega
        subst hk2
        have e1 : L.take L.length = L := List.take_length
        rw [e1] at hn hown hall
        clear e1 hlt
        have hx3 : n ≤ 3020 := by
          have h1 := frames_length L fun x hx => (hall.out x hx).2
          rw [hn.out] at h1
          omega
        have q1 := feed_frames L hall.out
        have q2 := feed_two L hall.out
        obtain ⟨F, hF⟩ : ∃ F, F = frames L := ⟨_, rfl⟩
        rw [← hF] at hn hown q1 q2
        obtain rfl := hn.out
        have hnc : F.length ≤ c1 := by obtain ⟨A', c', he, hc'⟩ := own_slice hown.out; injection he with _ _ he; subst he; exact hc'
        have hrd := own_rd hown.out rfl
        have HRD := Sealed.mk hrd
        have Q1 := Sealed.mk q1
        have Q2 := Sealed.mk q2
        clear hrd q1 q2 hF hall hown hn
        go_wp2_with fail
        refine (frame_Feed _ none 0 [] A1 c1 F Rd.none_ HRD.out (Nat.le_refl _) hnc (by decide) (by omega) rfl).mono ?_
        intro e w5 hf
        obtain ⟨A5, c5, O5, d5, rfl, hd5, hcc5, hO5, hR5, hb5⟩ := hf.ok (show feed ([] ++ F) = _ from Q1.out)
        obtain ⟨q0, q1⟩ := cell_two w5 (.slice A5 0 c5) (.bool false) 65
        have q0c := q0.1
        have q0f := q0.2
        have q1c := q1.1
        have q1f := q1.2
        have HO5 := Sealed.mk hO5
        clear hO5 hR5
        go_wp2_with fail
        refine (ref05_Lists _ A c L O5 d5 L ((HL.out.below hbr).below (below_next hb5 (below_alloc _ _))) (HO5.out.any.below (below_alloc _ _)) (by omega) (by omega) true (by simp)).mono ?_
        rintro e w6 ⟨rfl, hb6⟩
        have hb56 : Below w5.heap.size w5 w6 := below_next (below_alloc _ _) hb6
        obtain ⟨kn, hkn⟩ : ∃ kn : Nat, kn = cn % (F.length + 1) := ⟨_, rfl⟩
        have hkl : kn ≤ F.length := by have := Nat.mod_lt cn (show 0 < F.length + 1 by omega); omega
        have hkm : (cn : Int) % ((F.length : Int) + 1) = (kn : Int) := by rw [hkn, Int.natCast_emod]; rfl
        have w1' : IntKind.wrap .i64 (cn : Int) = (cn : Int) := IntWalk.i64_in _ (by omega)
        have w2' : IntKind.wrap .i64 ((F.length : Int) + 1) = (F.length : Int) + 1 := IntWalk.i64_in _ (by omega)
        have hkc : kn ≤ c1 := by omega
        obtain ⟨L1, R1, L2, f1, f2, f3, f3', f4, f5⟩ := Q2.out kn
        have hT : Rd w6 Anywhere 1 A1 (F.take kn).length (bv (F.take kn)) := by
          have h := ((HRD.out.below hb5).below hb56).head hkl
          rw [Nat.mul_one, ← bv_take] at h
          rw [List.length_take, Nat.min_eq_left hkl]
          exact h
        have hTl : (F.take kn).length = kn := by rw [List.length_take, Nat.min_eq_left hkl]
        obtain ⟨T, hTe⟩ : ∃ T, T = F.take kn := ⟨_, rfl⟩
        rw [← hTe] at hT hTl f1
        clear hTe hkn
        subst hTl
        have HT := Sealed.mk hT
        have F1 := Sealed.mk f1
        have F2 := Sealed.mk f2
        have F4 := Sealed.mk f4
        have F5 := Sealed.mk f5
        clear hT f1 f2 f4 f5
        go_wp2_with fail
        refine (frame_Feed _ none 0 [] A1 c1 T Rd.none_ HT.out (Nat.le_refl _) hkc (by decide) (by omega) rfl).mono ?_
        intro e w7 hf
        obtain ⟨A7, c7, O7, d7, rfl, hd7, hcc7, hO7, hR7, hb7⟩ := hf.ok (show feed ([] ++ T) = _ from F1.out)
        have HO7 := Sealed.mk hO7
        have HR7 := Sealed.mk hR7
        clear hO7 hR7
        obtain ⟨A8, hif⟩ : ∃ A8, (if c1 = T.length then A1 else Option.map (fun x => x.add T.length) A1) = A8 := ⟨_, rfl⟩
        have hb67 : Below wr.heap.size wr w7 := below_next (below_next hb5 hb56) hb7
        have hU : Rd w7 Anywhere 1 A8 (F.drop T.length).length (bv (F.drop T.length)) := by
          have h := (HRD.out.below hb67).cut (k := T.length) (cap := c1) hkl hnc
          rw [Nat.mul_one, hif, ← bv_drop] at h
          rw [List.length_drop]
          exact h
        have hUl : (F.drop T.length).length = F.length - T.length := List.length_drop
        obtain ⟨U, hUe⟩ : ∃ U, U = F.drop T.length := ⟨_, rfl⟩
        have f4 := F4.out
        rw [← hUe] at hU hUl f4
        have HU := Sealed.mk hU
        have F4' := Sealed.mk f4
        have HUL := Sealed.mk hUl
        have hUle : U.length ≤ 3020 := by omega
        have hUc : U.length ≤ c1 - T.length := by omega
        clear hU f4 hUe hUl F4
        obtain ⟨s0, s1⟩ := cell_two w7 (.slice A7 R1.length c7) (.bool false) 65
        have s0c := s0.1
        have s1c := s1.1
        have hba : Below w7.heap.size w7 (w7.alloc (.cells #[.slice A7 R1.length c7, .bool false] 65)) := below_alloc _ _
        go_wp2_with fail
        go_region_held3 (fun w' => w'.cell? ⟨w7.heap.size, 0, none⟩ = some (.slice A7 R1.length c7) ∧ w'.cell? ⟨w7.heap.size, 1, none⟩ = some (.bool false) ∧ Below w7.heap.size w7 w')
          (first | exact ⟨s0c, s1c, hba.drew⟩ | (go_split_ands; refine ⟨?_, ?_, ?_⟩ <;> (first | assumption | exact cell_below (below_alloc _ _) kz0 | exact cell_below (below_alloc _ _) kz1 | exact below_next kzb (below_alloc _ _) | exact cell_below (below_alloc _ _) (by assumption) | exact below_next (by assumption) (below_alloc _ _) | exact (World.cell?_setCell_other _ _ _ _ (by simp)).trans ((World.cell?_setCell_other _ _ _ _ (by simp)).trans (by assumption)) | exact (kzb.setCell (by simp) _).setCell (by simp) _)) | go_keep)
          (first | (go_at_call 34; go_split_ands; rw [← HUL.out]; refine (frame_Feed _ A7 c7 R1 A8 (c1 - T.length) U ?h1 ?h2 hcc7 hUc ?h3 ?h4 F2.out).mono ?_; (case h1 => exact HR7.out.any.below (by assumption)); (case h2 => exact HU.out.below (by assumption)); (case h3 => omega); (case h4 => omega); intro e wz hf; obtain ⟨A9, c9, O9, d9, rfl, hd9, hcc9, hO9, hR9, hbz⟩ := hf.ok F4'.out; have HO9 := Sealed.mk hO9; clear hO9 hR9; have kz0 : wz.cell? ⟨w7.heap.size, 0, none⟩ = some (.slice A7 R1.length c7) := cell_below hbz (by assumption); have kz1 : wz.cell? ⟨w7.heap.size, 1, none⟩ = some (.bool false) := cell_below hbz (by assumption); have kzb : Below w7.heap.size w7 wz := below_next (by assumption) hbz; (first | (have kn := path_cells hbz; have kn0c := kn.1.1; have kn0f := kn.1.2; have kn1c := kn.2.1; have kn1f := kn.2.2) | skip)))
        · obtain ⟨W16, hW⟩ : ∃ W, W = wz.alloc (.cells #[.slice A9 0 c9, .bool false] 65) := ⟨_, rfl⟩
          have hbW : Below wz.heap.size wz W16 := by rw [hW]; exact below_alloc _ _
          have k16 : W16.cell? ⟨wz.heap.size, 0, none⟩ = some (.slice A9 0 c9) := by rw [hW]; simp
          have kz0' := cell_below hbW kz0
          have kz1' := cell_below hbW kz1
          have hO9' := HO9.out.any.below hbW
          have hw7 : Below w7.heap.size w7 W16 := below_next kzb hbW
          rw [← hW]
          clear hW hbW kz0 kz1 kzb HO9
          have hO7' := HO7.out.any.below hw7
          have HO9' := Sealed.mk hO9'
          have HO7' := Sealed.mk hO7'
          have hr7 := HR7.out.any.below hw7
          have HR7' := Sealed.mk hr7
          clear hO9' hO7' hr7
          go_wp2_with fail
          refine (frame_Right _ Anywhere A7 c7 R1 false HR7'.out (by omega) true (by unfold rightOf; rw [F2.out]; rfl)).mono ?_
          rintro e w17 ⟨rfl, hb17⟩
          obtain ⟨v7, rv7, av7⟩ := HO7'.out.below hb17
          obtain ⟨v9, rv9, av9⟩ := HO9'.out.below hb17
          have k17 := cell_below hb17 k16
          have RV7 := Sealed.mk rv7
          have AV7 := Sealed.mk av7
          have RV9 := Sealed.mk rv9
          have AV9 := Sealed.mk av9
          have hbw : Below w.heap.size w w17 := (hbr.trans (hb67.mono hbr.size)).trans ((below_next hw7 hb17).mono (by have := hbr.size; have := hb67.size; omega))
          have HLW := Sealed.mk ((HL.out.below hbw))
          have hll : L1.length + L2.length = L.length := by rw [← List.length_append, F5.out]
          clear rv7 av7 rv9 av9 HO7' HO9' HR7' k16 kz0' kz1'
          go_wp2_with (first
            | (at_builtin; refine append_wanted (by rfl) (.tmp 119) (.tmp 120) _ rfl w17.heap.size 25 _ 1 24 Try.underlying22 rows_info rfl (by omega) (.slice (some ⟨w17.heap.size, 0, none⟩) 0 0) 0 [] rfl (own_new _ _ _) Anywhere _ L1.length d7 v7 rfl (RV7.out.below (below_alloc _ _)) ?a1x ?a2x ?a3x ?a4x ?_; (case a1x => exact all2_one AV7.out); (case a2x => simp only [maxLen]; omega); (case a3x => omega); (case a4x => simp); intro A18 c18 w18 hc18 ho18 hg18 hat18; have hb18 : Below w17.heap.size w17 w18 := (below_alloc _ _).grown hg18 (by simp) (by intro k hk; injection hk with hk; exact Nat.le_of_eq hk); rw [Nat.zero_add] at ho18 hc18 ⊢; rw [List.nil_append] at ho18)
            | (at_builtin; refine append_wanted (by rfl) (.tmp 121) (.tmp 122) _ rfl w17.heap.size 25 _ 1 24 Try.underlying22 rows_info rfl (by omega) (.slice A18 L1.length c18) L1.length v7 rfl ho18 Anywhere _ L2.length d9 v9 rfl (RV9.out.below hb18) ?b1x ?b2x ?b3x ?b4x ?_; (case b1x => exact all2_one AV9.out); (case b2x => simp only [maxLen]; omega); (case b3x => omega); (case b4x => exact hb18.size); intro A19 c19 w19 hc19 ho19 hg19 hat19; have hb19 : Below w17.heap.size w17 w19 := hb18.grown hg19 hb18.size (own_base ho18)))
          obtain ⟨A20, c20, he20, hc20, hr20⟩ := Rd2.of_own (L := L1 ++ L2) ho19 ((AV7.out.imp fun _ _ h => (h.below hb19).more fun _ _ => trivial).append (AV9.out.imp fun _ _ h => (h.below hb19).more fun _ _ => trivial))
          rw [F5.out] at he20 hr20
          injection he20 with e1 e2 e3
          subst e1 e3
          have hr20' := Sealed.mk hr20
          clear hr20 ho19 ho18 e2
          refine (ref05_Lists _ A19 c19 L A c L hr20'.out (HLW.out.below hb19) (by omega) (by omega) true (by simp)).mono ?_
          rintro e w21 ⟨rfl, hb21⟩
          go_wp2_with fail
          go_ret
          exact ⟨rfl, hbw.trans ((below_next hb19 hb21).mono hbw.size)⟩
        · obtain ⟨W16, hW⟩ : ∃ W, W = (wz.setCell ⟨w7.heap.size + 1, 0, none⟩ (.slice A9 0 c9)).setCell ⟨w7.heap.size + 1, 1, none⟩ (.bool false) := ⟨_, rfl⟩
          have k16 : W16.cell? ⟨w7.heap.size + 1, 0, none⟩ = some (.slice A9 0 c9) := by rw [hW]; exact ((kn.1.set_ (.slice A9 0 c9)).far (b' := w7.heap.size + 1) (o' := 1) (.inr (by omega)) (.bool false)).1
          have kz0' : W16.cell? ⟨w7.heap.size, 0, none⟩ = some (.slice A7 R1.length c7) := by rw [hW]; exact (World.cell?_setCell_other _ _ _ _ (by simp)).trans ((World.cell?_setCell_other _ _ _ _ (by simp)).trans kz0)
          have kz1' : W16.cell? ⟨w7.heap.size, 1, none⟩ = some (.bool false) := by rw [hW]; exact (World.cell?_setCell_other _ _ _ _ (by simp)).trans ((World.cell?_setCell_other _ _ _ _ (by simp)).trans kz1)
          have hO9' : Rd2 W16 Anywhere O9 L2 := by rw [hW]; exact ((HO9.out.set_ (p := ⟨w7.heap.size + 1, 0, none⟩) (fun k hk => by show k ≠ w7.heap.size + 1; simp at hk; omega) _).set_ (p := ⟨w7.heap.size + 1, 1, none⟩) (fun k hk => by show k ≠ w7.heap.size + 1; simp at hk; omega) _).any
          have hw7 : Below w7.heap.size w7 W16 := by rw [hW]; exact (kzb.setCell (by simp) _).setCell (by simp) _
          rw [← hW]
          clear hW kz0 kz1 kzb HO9 kn kn0c kn0f kn1c kn1f
          have hO7' := HO7.out.any.below hw7
          have HO9' := Sealed.mk hO9'
          have HO7' := Sealed.mk hO7'
          have hr7 := HR7.out.any.below hw7
          have HR7' := Sealed.mk hr7
          clear hO9' hO7' hr7
          go_wp2_with fail
          refine (frame_Right _ Anywhere A7 c7 R1 false HR7'.out (by omega) true (by unfold rightOf; rw [F2.out]; rfl)).mono ?_
          rintro e w17 ⟨rfl, hb17⟩
          obtain ⟨v7, rv7, av7⟩ := HO7'.out.below hb17
          obtain ⟨v9, rv9, av9⟩ := HO9'.out.below hb17
          have k17 := cell_below hb17 k16
          have RV7 := Sealed.mk rv7
          have AV7 := Sealed.mk av7
          have RV9 := Sealed.mk rv9
          have AV9 := Sealed.mk av9
          have hbw : Below w.heap.size w w17 := (hbr.trans (hb67.mono hbr.size)).trans ((below_next hw7 hb17).mono (by have := hbr.size; have := hb67.size; omega))
          have HLW := Sealed.mk ((HL.out.below hbw))
          have hll : L1.length + L2.length = L.length := by rw [← List.length_append, F5.out]
          clear rv7 av7 rv9 av9 HO7' HO9' HR7' k16 kz0' kz1'
          go_wp2_with (first
            | (at_builtin; refine append_wanted (by rfl) (.tmp 119) (.tmp 120) _ rfl w17.heap.size 25 _ 1 24 Try.underlying22 rows_info rfl (by omega) (.slice (some ⟨w17.heap.size, 0, none⟩) 0 0) 0 [] rfl (own_new _ _ _) Anywhere _ L1.length d7 v7 rfl (RV7.out.below (below_alloc _ _)) ?a1y ?a2y ?a3y ?a4y ?_; (case a1y => exact all2_one AV7.out); (case a2y => simp only [maxLen]; omega); (case a3y => omega); (case a4y => simp); intro A18 c18 w18 hc18 ho18 hg18 hat18; have hb18 : Below w17.heap.size w17 w18 := (below_alloc _ _).grown hg18 (by simp) (by intro k hk; injection hk with hk; exact Nat.le_of_eq hk); rw [Nat.zero_add] at ho18 hc18 ⊢; rw [List.nil_append] at ho18)
            | (at_builtin; refine append_wanted (by rfl) (.tmp 121) (.tmp 122) _ rfl w17.heap.size 25 _ 1 24 Try.underlying22 rows_info rfl (by omega) (.slice A18 L1.length c18) L1.length v7 rfl ho18 Anywhere _ L2.length d9 v9 rfl (RV9.out.below hb18) ?b1y ?b2y ?b3y ?b4y ?_; (case b1y => exact all2_one AV9.out); (case b2y => simp only [maxLen]; omega); (case b3y => omega); (case b4y => exact hb18.size); intro A19 c19 w19 hc19 ho19 hg19 hat19; have hb19 : Below w17.heap.size w17 w19 := hb18.grown hg19 hb18.size (own_base ho18)))
          obtain ⟨A20, c20, he20, hc20, hr20⟩ := Rd2.of_own (L := L1 ++ L2) ho19 ((AV7.out.imp fun _ _ h => (h.below hb19).more fun _ _ => trivial).append (AV9.out.imp fun _ _ h => (h.below hb19).more fun _ _ => trivial))
          rw [F5.out] at he20 hr20
          injection he20 with e1 e2 e3
          subst e1 e3
          have hr20' := Sealed.mk hr20
          clear hr20 ho19 ho18 e2
          refine (ref05_Lists _ A19 c19 L A c L hr20'.out (HLW.out.below hb19) (by omega) (by omega) true (by simp)).mono ?_
          rintro e w21 ⟨rfl, hb21⟩
          go_wp2_with fail
          go_ret
          exact ⟨rfl, hbw.trans ((below_next hb19 hb21).mono hbw.size)⟩
end Go.Proofs.Ytkpabmhijpnchaa

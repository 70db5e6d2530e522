/- wire.Put, wire.Pass, wire.Twice: what they tell. -/
import Derived.Test.YtkpabmhijpnchaaWireA
import Derived.Test.YtkpabmhijpnchaaDel
set_option linter.unusedVariables false
set_option linter.unusedSimpArgs false
namespace Go.Proofs.Ytkpabmhijpnchaa
open Go.RowKit
def putOf (L : List (List UInt8)) (b : List UInt8) : List (List UInt8) × Int := if 200 < L.length then (L, 1) else if L.length = 200 then (L, 7) else (L ++ [b], 0)
def TwoRows (r : List (List UInt8) × Int) (S : Nat → Prop) (w : World) (e : Ending) (w' : World) : Prop := ∃ A c, e = .returned (.tuple #[.agg #[.slice A r.1.length c], .int .i64 r.2]) ∧ r.1.length ≤ c ∧ Rd2 w' (Later S w) A r.1 ∧ Below w.heap.size w w'
theorem below_two {w w1 : World} {o p : Obj} (h : Below ((w.alloc o).alloc p).heap.size ((w.alloc o).alloc p) w1) : Below w.heap.size w w1 :=
  below_next (((Below.refl _ _).alloc (Nat.le_refl _) _).alloc (by simp) _) h
theorem below_set2 {w w1 : World} {o p : Obj} {u : Value} (h : Below ((w.alloc o).alloc p).heap.size ((w.alloc o).alloc p) w1) : Below w.heap.size w (w1.setCell ⟨w.heap.size + 1, 0, none⟩ u) :=
  (below_two h).setCell (by simp) u
theorem two_cells {w w1 wn : World} {u v : Value} {t s : TypeId} (h : Below ((w.alloc (.cells #[u] t)).alloc (.cells #[v] s)).heap.size ((w.alloc (.cells #[u] t)).alloc (.cells #[v] s)) w1) (k : Below w1.heap.size w1 wn) :
    wn.cell? ⟨w.heap.size, 0, none⟩ = some u ∧ wn.cell? ⟨w.heap.size + 1, 0, none⟩ = some v ∧ wn.frozen? ⟨w.heap.size, 0, none⟩ = false ∧ wn.frozen? ⟨w.heap.size + 1, 0, none⟩ = false := by
  have hz := h.size
  simp at hz
  obtain ⟨c1, f1⟩ := bcell h
  obtain ⟨c2, f2⟩ := bcell k
  refine ⟨?_, ?_, ?_, ?_⟩
  · rw [c2 _ _ (by omega), c1 _ _ (by simp <;> omega)]; simp
  · rw [c2 _ _ (by omega), c1 _ _ (by simp <;> omega)]; simp
  · rw [f2 _ _ (by omega), f1 _ _ (by simp <;> omega)]; simp
  · rw [f2 _ _ (by omega), f1 _ _ (by simp <;> omega)]; simp
set_option maxHeartbeats 1000000 in
theorem wire_Put (w : World) (S : Nat → Prop) (A : Option Addr) (c : Nat) (L : List (List UInt8)) (B : Option Addr) (d : Nat) (b : List UInt8) (hL : Rd2 w S A L) (hc : L.length ≤ c) (hb : Rd w Anywhere 1 B b.length (bv b)) (hd : b.length ≤ d) (h2 : L.length ≤ 140737488355328) (h3 : b.length ≤ 140737488355328) :
    Calls Try.prog 10 #[.agg #[.slice A L.length c], .slice B b.length d] w (TwoRows (putOf L b) S w) := by
  by_cases h1 : 200 < L.length
  · have e1 : putOf L b = (L, 1) := by unfold putOf; rw [if_pos h1]
    rw [e1]
    clear e1
    have HL := Sealed.mk hL
    clear hL hb
    go_enter Try.func10, Try.ntmps10
    go_wp2_with (go_at_call 16; refine (wire_Right _ _ _ _ h2 false (by simp; omega)).mono ?_; rintro e w1 ⟨rfl, hb1⟩; obtain ⟨hc1, hf1⟩ := bcell hb1)
    refine bodyPost_ret (v := .tuple #[.agg #[.slice A L.length c], .int .i64 1]) (by simp [results, Try.results10, hc1, go_sem]) rfl ⟨A, c, rfl, hc, ?_, ?_⟩
    · exact HL.out.later (below_set2 hb1)
    · exact below_set2 hb1
  · have h5 : decide (200 < L.length) = false := by simp; omega
    by_cases h6 : L.length = 200
    · have e1 : putOf L b = (L, 7) := by unfold putOf; rw [if_neg h1, if_pos h6]
      rw [e1]
      have HL := Sealed.mk hL
      have h7 : ((L.length : Int) == 200) = true := by simp; omega
      clear hL hb e1 h6
      go_enter Try.func10, Try.ntmps10
      go_wp2_with (go_at_call 16; refine (wire_Right _ _ _ _ h2 true (by simp; omega)).mono ?_; rintro e w1 ⟨rfl, hb1⟩; obtain ⟨hc1, hf1⟩ := bcell hb1)
      refine bodyPost_ret (v := .tuple #[.agg #[.slice A L.length c], .int .i64 7]) (by simp [results, Try.results10, hc1, go_sem]) rfl ⟨A, c, rfl, hc, ?_, ?_⟩
      · exact HL.out.later (below_set2 hb1)
      · exact below_set2 hb1
    · have e1 : putOf L b = (L ++ [b], 0) := by unfold putOf; rw [if_neg h1, if_neg h6]
      rw [e1]
      obtain ⟨vs, hvs, hes⟩ := hL.lt
      have HV := Sealed.mk hvs
      have HE := Sealed.mk hes
      have HB := Sealed.mk hb
      have h7 : ((L.length : Int) == 200) = false := by simp; omega
      clear hvs hes hb e1 h6
      go_enter Try.func10, Try.ntmps10
      go_wp2_with (first
        | (go_at_call 16; refine (wire_Right _ _ _ _ h2 true (by simp; omega)).mono ?_; rintro e w1 ⟨rfl, hb1⟩; obtain ⟨hc1, hf1⟩ := bcell hb1; obtain ⟨hz1, hz1'⟩ : w.heap.size < w1.heap.size ∧ w.heap.size + 1 < w1.heap.size := by have := hb1.size; simp at this; omega)
        | (go_at_call 37; refine (clone_rows _ _ _ _ _ _ (HV.out.below (below_two hb1)) (all2_one HE.out) (by omega)).mono ?_; rintro e w2 ⟨A2, c2, rfl, hcc2, ho2, hb2⟩; obtain ⟨hc2, hf2⟩ := bcell hb2)
        | (go_at_call 38; refine (clone_u8 _ Anywhere _ _ _ _ (HB.out.below (below_next (below_two hb1) hb2)) (bv_one b) (by omega)).mono ?_; rintro e w3 ⟨A3, c3, rfl, hcc3, ho3, hb3⟩; obtain ⟨hc3, hf3⟩ := bcell hb3)
        | (at_builtin; refine wpList_append_any _ rfl (.tmp 19) (.tmp 22) _ rfl w1.heap.size 25 _ 1 24 Try.underlying22 rows_info rfl (by omega) (.slice A2 L.length c2) L.length vs rfl ((own_below ho2 hb3).alloc _) Anywhere _ 1 1 [.slice A3 b.length c3] rfl (Rd.boxed w3 _ _).any ?h1 ?h2 ?h3 ?h4 ?_; (case h1 => intro u hu; simp at hu; subst hu; rfl); (case h2 => simp only [maxLen]; omega); (case h3 => omega); (case h4 => have := hb2.size; have := hb3.size; simp; omega); intro A4 c4 w4 hc4' ho4 hg4 hat4; have hb4 : Below w1.heap.size w1 w4 := ((below_next hb2 hb3).alloc (below_next hb2 hb3).size _).grown hg4 (by have := (below_next hb2 hb3).size; simp; omega) (own_base ho2); obtain ⟨q1, q2, q3, q4⟩ := two_cells hb1 hb4))
      have hz2 := hb2.size
      have hz0 : w.heap.size ≤ w1.heap.size := Nat.le_of_lt hz1
      have hB4 : Below w.heap.size w w4 := below_next (below_two hb1) hb4
      have o3 := ownsRow_setCell_below (ownsRow_setCell_below ((ho3.alloc (.cells #[.slice A3 b.length c3] 25)).kept hg4 (own_apart (ho3.alloc (.cells #[.slice A3 b.length c3] 25)) (fun k hk => (ho2.lt k hk).2))) (a := ⟨w.heap.size, 0, none⟩) (by simp; omega) (.slice A4 (L.length + 1) c4)) (a := ⟨w.heap.size + 1, 0, none⟩) (by simp; omega) (.slice A4 (L.length + 1) c4)
      have o4 := ownsRow_setCell_below (ownsRow_setCell_below ho4 (a := ⟨w.heap.size, 0, none⟩) (by simp; omega) (.slice A4 (L.length + 1) c4)) (a := ⟨w.heap.size + 1, 0, none⟩) (by simp; omega) (.slice A4 (L.length + 1) c4)
      have hB : Below w.heap.size w ((w4.setCell ⟨w.heap.size, 0, none⟩ (.slice A4 (L.length + 1) c4)).setCell ⟨w.heap.size + 1, 0, none⟩ (.slice A4 (L.length + 1) c4)) := (hB4.setCell (by simp) _).setCell (by simp) _
      refine bodyPost_ret (v := .tuple #[.agg #[.slice A4 (L ++ [b]).length c4], .int .i64 0]) (by simp [results, Try.results10, go_sem, q1, q2]) rfl ⟨A4, c4, rfl, by simpa using hc4', ?_, hB⟩
      obtain ⟨A', c', he, _, hr⟩ := Rd2.of_own' (S := Later S w) (L := L ++ [b]) o4 ((HE.out.imp fun _ _ h => (h.below hB).more fun _ hk => .inl hk).append ⟨(RB.of_own o3).more fun k hk => .inr (by omega), trivial⟩) (fun k hk => .inr (by omega))
      injection he with he
      subst he
      exact hr
end Go.Proofs.Ytkpabmhijpnchaa

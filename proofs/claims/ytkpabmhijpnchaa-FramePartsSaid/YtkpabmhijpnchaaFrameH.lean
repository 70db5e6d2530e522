/- Layer 5: the fixed answer. -/
import Derived.Test.YtkpabmhijpnchaaFrameG
import Derived.Test.YtkpabmhijpnchaaRefA
import Derived.Lib.SlBytesConst
set_option linter.unusedVariables false
set_option linter.unusedSimpArgs false
namespace Go.Proofs.Ytkpabmhijpnchaa
open Go.RowKit
theorem feedA : feed [0, 1, 65, 0] = ([[65]], [0], false) := by decide +kernel
theorem feedB : feed [0, 0] = ([], [0, 0], true) := by decide +kernel
theorem own_rd {w : World} {base : Nat} {e : TypeId} {A : Option Addr} {c : Nat} {l : List UInt8} {n : Nat} (h : w.ownsRow base e 1 (.slice A n c) n (bv l)) (hn : n = l.length) : Rd w Anywhere 1 A l.length (bv l) := by
  subst hn
  exact (Rd.of_own h).any
theorem rd_byte5 (w : World) (t : TypeId) (x : UInt8) (fr : Nat × Nat) (g : Nat) (hg : g = w.heap.size) : Rd (w.alloc (.cells #[.int .u8 (x.toNat : Int)] t fr)) Anywhere 1 (some ⟨g, 0, none⟩) 1 (bv [x]) := by
  subst hg
  exact ⟨rfl, fun _ => ⟨_, rfl, trivial, fun j u hu => World.news_of_block (cs := #[.int .u8 (x.toNat : Int)]) (t := t) (fr := fr) (heap_alloc_new w _) j u hu⟩⟩
set_option maxHeartbeats 4000000 in
set_option maxRecDepth 100000 in
theorem awake05 (w : World) : Calls Try.prog 32 #[] w fun e w' => e = .returned (.bool true) ∧ Below w.heap.size w w' := by
  have kc := fun (w : World) (C : Array Value) (n c : Nat) => Lib.run_convert_bytes_const (P := Try.prog) w 25 5 C n c Try.underlying25 Try.underlying5
  go_enter Try.func32, Try.ntmps32
  go_wp2_with fail
  refine (frame_Put_ok _ Anywhere _ 1 [65] (rd_byte5 _ _ 65 _ _ rfl) (by decide) (by decide)).mono ?_
  rintro e w1 ⟨⟨A1, c1, rfl, ho1⟩, hb1⟩
  have hB1 : Below w.heap.size w w1 := below_next (below_alloc _ _) hb1
  have hr1 : Rd w1 Anywhere 1 A1 3 (bv [0, 1, 65]) := (Rd.of_own ho1).any
  have hc1 : 3 ≤ c1 := by obtain ⟨A', c', he, hc'⟩ := own_slice ho1; injection he with _ _ he; subst he; exact hc'
  have HR1 := Sealed.mk hr1
  clear ho1 hr1 kc
  go_wp2_with (first
    | (at_builtin; refine wpList_append_any _ rfl (.tmp 19) (.tmp 20) _ rfl w1.heap.size 5 _ 1 1 Try.underlying25 u8_info rfl (by omega) (.slice (some ⟨w1.heap.size, 0, none⟩) 0 0) 0 [] rfl (own_new _ _ _) Anywhere _ 3 c1 (bv [0, 1, 65]) rfl (HR1.out.below (below_alloc _ _)) ?h1 ?h2 ?h3 ?h4 ?_; (case h1 => exact bv_one _); (case h2 => simp only [maxLen]; omega); (case h3 => omega); (case h4 => simp); intro A2 c2 w2 hc2 ho2 hg2 hat2; have hb2 : Below w1.heap.size w1 w2 := (below_alloc _ _).grown hg2 (by simp) (by intro k hk; injection hk with hk; exact Nat.le_of_eq hk))
    | (at_builtin; refine wpList_append_any _ rfl (.tmp 21) (.tmp 22) _ rfl w1.heap.size 5 _ 1 1 Try.underlying25 u8_info rfl (by omega) (.slice A2 3 c2) 3 (bv [0, 1, 65]) rfl (own_below ho2 (below_alloc _ _)) Anywhere _ 1 1 (bv [0]) rfl (rd_byte5 _ _ 0 _ _ rfl) ?h5 ?h6 ?h7 ?h8 ?_; (case h5 => exact bv_one _); (case h6 => simp only [maxLen]; omega); (case h7 => omega); (case h8 => have := hb2.size; simp; omega); intro A3 c3 w3 hc3 ho3 hg3 hat3; have hb3 : Below w1.heap.size w1 w3 := (below_next hb2 (below_alloc _ _)).grown hg3 (by have := hb2.size; simp; omega) (own_base ho2)))
  have hB3 : Below w.heap.size w w3 := below_next hB1 hb3
  refine (frame_Feed _ none 0 [] A3 c3 [0, 1, 65, 0] Rd.none_ (own_rd ho3 rfl) (Nat.le_refl _) (by simpa using hc3) (by decide) (by decide) rfl).mono ?_
  intro e w4 hf
  obtain ⟨A4, c4, O4, d4, rfl, hd4, hcc4, hO4, hR4, hb4⟩ := hf.ok feedA
  have HO4 := Sealed.mk hO4
  have HR4 := Sealed.mk hR4
  clear ho3 ho2 hat2 hat3 hg2 hg3 hO4 hR4
  go_wp2_with fail
  obtain ⟨q0, q1⟩ := cell_two w4 (.slice A4 1 c4) (.bool false) 65
  refine (frame_Feed _ A4 c4 [0] (some ⟨w4.heap.size + 1, 0, none⟩) 1 [0] (((HR4.out.any.below (below_alloc w4 (.cells #[.slice A4 1 c4, .bool false] 65)))).below (below_alloc _ _)) (rd_byte5 _ _ 0 _ _ (by simp)) hcc4 (Nat.le_refl _) (by decide) (by decide) rfl).mono ?_
  intro e w5 hf
  obtain ⟨A5, c5, O5, d5, rfl, hd5, hO5, hb5⟩ := hf.broken feedB
  have hb45 : Below w4.heap.size w4 w5 := below_next (below_next (below_alloc _ _) (below_alloc _ _)) hb5
  have q0 := (q0.old (.cells #[.int .u8 0] 5)).below hb5
  have q1 := (q1.old (.cells #[.int .u8 0] 5)).below hb5
  clear hO5
  go_wp2_with fail
  obtain ⟨p0, p1⟩ := cell_two w5 (.slice A5 0 c5) (.bool true) 65
  refine (frame_Put_none _ none 0).mono ?_
  rintro e w6 ⟨rfl, hb6⟩
  have q0 := (q0.old (.cells #[.slice A5 0 c5, .bool true] 65)).below hb6
  have q1 := (q1.old (.cells #[.slice A5 0 c5, .bool true] 65)).below hb6
  have p0 := p0.below hb6
  have p1 := p1.below hb6
  have hb56 : Below w5.heap.size w5 w6 := below_next (below_alloc _ _) hb6
  have hb46 : Below w4.heap.size w4 w6 := below_next hb45 hb56
  have hr1 := (HR1.out.below (below_next hb3 (below_next hb4 hb46)))
  have hr4 := HR4.out.below hb46
  obtain ⟨ad, A7, c7, rfl, hcell, hc7, hr7⟩ := (HO4.out.below hb46).at_ (i := 0) (by decide)
  have hcell : w6.cell? ad = some (.slice A7 1 c7) := by have h := hcell; rw [add_zero'] at h; exact h
  have s1 : (convert 25 9 (.slice A1 3 c1)).run Try.prog w6 = .ok (.string (str [0, 1, 65])) w6 := run_string_of (l := [0, 1, 65]) hr1 25 5 9 Try.underlying25 Try.underlying5 Try.underlying9 c1
  have s2 : (convert 25 9 (.slice A7 1 c7)).run Try.prog w6 = .ok (.string (str [65])) w6 := run_string_of (l := [65]) hr7 25 5 9 Try.underlying25 Try.underlying5 Try.underlying9 c7
  have s3 : (convert 25 9 (.slice A4 1 c4)).run Try.prog w6 = .ok (.string (str [0])) w6 := run_string_of (l := [0]) hr4 25 5 9 Try.underlying25 Try.underlying5 Try.underlying9 c4
  have HR7 := Sealed.mk hr4
  obtain ⟨q0, qf0⟩ := q0
  obtain ⟨q1, qf1⟩ := q1
  obtain ⟨p0, pf0⟩ := p0
  obtain ⟨p1, pf1⟩ := p1
  clear hr1 hr4 hr7 hc7
  have t1 := str_toList [0, 1, 65]
  have t2 := str_toList [65]
  have t3 := str_toList [0]
  go_wp2_with fail
  trace_state
  refine (frame_Right _ Anywhere A4 c4 [0] false HR7.out.any (by decide) true (by decide)).mono ?_
  rintro e w7 ⟨rfl, hb7⟩
  go_wp2_with fail
  go_ret
  exact ⟨rfl, below_next hB3 (below_next (below_next hb4 hb46) hb7)⟩
end Go.Proofs.Ytkpabmhijpnchaa

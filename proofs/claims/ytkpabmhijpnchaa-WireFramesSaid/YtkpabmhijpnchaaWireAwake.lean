/- The fixed answer of layer 19's statements. -/
import Derived.Test.YtkpabmhijpnchaaRefB
import Derived.Lib.SlBytesConst
set_option linter.unusedVariables false
set_option linter.unusedSimpArgs false
namespace Go.Proofs.Ytkpabmhijpnchaa
open Go.RowKit
theorem rd_byte (w : World) (t : TypeId) (x : UInt8) (fr : Nat × Nat) (g : Nat) (hg : g = w.heap.size) (S : Nat → Prop) (hS : S g) : Rd (w.alloc (.cells #[.int .u8 (x.toNat : Int)] t fr)) S 1 (some ⟨g, 0, none⟩) 1 (bv [x]) :=
  ⟨rfl, fun _ => ⟨_, rfl, hS, fun j u hu => by
    subst hg
    have := World.news_of_block (cs := #[.int .u8 (x.toNat : Int)]) (t := t) (fr := fr) (heap_alloc_new w _) j u hu
    exact this⟩⟩
set_option maxHeartbeats 4000000 in
set_option maxRecDepth 100000 in
theorem awake19 (w : World) : Calls Try.prog 8 #[] w fun e w' => e = .returned (.bool true) ∧ Below w.heap.size w w' := by
  have kc := fun (w : World) (C : Array Value) (n c : Nat) => Lib.run_convert_bytes_const (P := Try.prog) w 25 5 C n c Try.underlying25 Try.underlying5
  have kc2 : ∀ (w : World) (o : Obj) (C : Array Value) (n c : Nat), (convert 25 25 (.slice (some ⟨w.heap.size + 1, 0, none⟩) n c)).run Try.prog ((w.alloc o).alloc (.cells C 5)) = .ok (.slice (some ⟨w.heap.size + 1, 0, none⟩) n c) ((w.alloc o).alloc (.cells C 5 (C.size, C.size + 1))) := fun w o C n c => by have h := kc (w.alloc o) C n c; simpa using h
  have P1 := Sealed.mk (show putOf [] [97] = ([[97]], 0) by decide)
  have P2 := Sealed.mk (show putOf [[97]] [98] = ([[97], [98]], 0) by decide)
  have P3 := Sealed.mk (show passOf [[97], [98]] 3 = ([[97]], [98], 0) by decide)
  have P4 := Sealed.mk (show twiceOf [[97], [98]] 0 = ([[97], [98], [97]], 0) by decide)
  have P5 := Sealed.mk (show passOf [] 0 = ([], [], 5) by decide)
  go_enter Try.func8, Try.ntmps8
  go_wp2_with fail
  refine (wire_Put _ Anywhere none 0 [] (some ⟨w.heap.size, 0, none⟩) 1 [97] (Rd2.nil _ _) (Nat.le_refl _) (rd_byte _ _ 97 _ _ rfl _ trivial) (Nat.le_refl _) (by decide) (by decide)).mono ?_
  rw [P1.out]
  rintro e w1 ⟨A1, c1, rfl, hc1, r1, hb1⟩
  have hs1 : Below w.heap.size w w1 := below_next (below_alloc w _) hb1
  go_wp2_with fail
  refine (wire_Put _ (· ≠ w1.heap.size) A1 c1 [[97]] (some ⟨w1.heap.size + 1, 0, none⟩) 1 [98] (((r1.lt.more (fun k hk => Nat.ne_of_lt hk.2)).below (below_alloc _ _)).below (below_alloc _ _)) hc1 (rd_byte _ _ 98 _ _ (by simp) _ trivial) (Nat.le_refl _) (by decide) (by decide)).mono ?_
  rw [P2.out]
  rintro e w2 ⟨A2, c2, rfl, hc2, r2, hb2⟩
  have hs2 : Below w.heap.size w w2 := below_next (below_next (below_next hs1 (below_alloc _ _)) (below_alloc _ _)) hb2
  obtain ⟨k1, f1⟩ := ((Cell.new w1 (.slice A1 1 c1) 24).old (.cells #[.int .u8 98] 5 (1, 2))).below hb2
  obtain ⟨W2, hW2⟩ : ∃ W2, W2 = w2.setCell ⟨w1.heap.size, 0, none⟩ (.slice A2 2 c2) := ⟨_, rfl⟩
  have hz1 := hs1.size
  have r2' : Rd2 W2 Anywhere A2 [[97], [98]] := by rw [hW2]; exact (r2.set_ (p := ⟨w1.heap.size, 0, none⟩) (fun k hk => by rcases hk with ⟨hk, _⟩ | hk; exact hk; exact Nat.ne_of_gt (Nat.lt_of_lt_of_le (Nat.lt_of_lt_of_le (Nat.lt_succ_self _) (by simp)) hk)) _).any
  have hb2' : Below w.heap.size w W2 := by rw [hW2]; exact hs2.setCell hz1 _
  have q1 : Cell W2 w1.heap.size 0 (.slice A2 2 c2) := by rw [hW2]; exact Cell.set_ ⟨k1, f1⟩ _
  go_wp2_with fail
  rw [← hW2]
  clear hW2 k1 f1
  obtain ⟨k1, f1⟩ := q1
  refine (wire_Pass W2 Anywhere A2 c2 [[97], [98]] 3 r2' hc2 (by decide) (by decide)).mono ?_
  rw [P3.out]
  rintro e w3 ⟨A3, c3, B3, d3, rfl, hc3, r3, hd3, s3, hb3⟩
  obtain ⟨k1, f1⟩ := Cell.below ⟨k1, f1⟩ hb3
  have l1 := Cell.lt ⟨k1, f1⟩
  have hb3' := below_next hb2' hb3
  have r2'' := r2'.below hb3
  go_wp2_with fail
  refine (wire_Twice _ Anywhere A2 c2 [[97], [98]] 0 (r2''.below (below_alloc _ _)) hc2 (by decide) (by decide)).mono ?_
  rw [P4.out]
  rintro e w4 ⟨A4, c4, rfl, hc4, r4, hb4⟩
  obtain ⟨k3, f3⟩ := (Cell.new w3 _ _).below hb4
  have l3 := Cell.lt ⟨k3, f3⟩
  go_wp2_with fail
  refine (wire_Pass _ Anywhere none 0 [] 0 (Rd2.nil _ _) (Nat.le_refl _) (by decide) (by decide)).mono ?_
  rw [P5.out]
  rintro e w5 ⟨A5, c5, B5, d5, rfl, hc5, r5, hd5, s5, hb5⟩
  obtain ⟨k3, f3⟩ := (Cell.old ⟨k3, f3⟩ _).below hb5
  have l3 := Cell.lt ⟨k3, f3⟩
  obtain ⟨k4, f4⟩ := (Cell.new w4 _ _).below hb5
  have l4 := Cell.lt ⟨k4, f4⟩
  have t1 := str_toList [98]
  have t2 := str_toList [97]
  have t3 : (ByteArray.mk #[98]).toList = [98] := str_toList [98]
  have t4 : (ByteArray.mk #[97]).toList = [97] := str_toList [97]
  have hs45 : Below w3.heap.size w3 (w5.alloc (.cells #[.slice A5 0 c5] 24)) := below_next (below_next (below_next (below_next (below_alloc _ _) hb4) (below_alloc _ _)) hb5) (below_alloc _ _)
  have hs55 : Below w4.heap.size w4 (w5.alloc (.cells #[.slice A5 0 c5] 24)) := below_next (below_next (below_alloc _ _) hb5) (below_alloc _ _)
  have v1 := run_string_of (P := Try.prog) (l := [98]) (s3.below hs45) 25 5 9 Try.underlying25 Try.underlying5 Try.underlying9 d3
  obtain ⟨ad, A9, c9, rfl, hcell, hc9, hr9⟩ := (r4.below hs55).at_ (i := 2) (by decide)
  have v2 := run_string_of (P := Try.prog) (l := [97]) hr9 25 5 9 Try.underlying25 Try.underlying5 Try.underlying9 c9
  simp only [List.length_cons, List.length_nil, Nat.zero_add] at v1 v2
  have hcell' : (w5.alloc (.cells #[.slice A5 0 c5] 24)).cell? (ad.add 2) = some (.slice A9 1 c9) := hcell
  have hcell'' : (w5.alloc (.cells #[.slice A5 0 c5] 24)).cell? ⟨ad.block, ad.off + 2, none⟩ = some (.slice A9 1 c9) := hcell
  clear hcell hr9 hs45 hs55
  go_wp2_with fail
  refine (wire_Right _ _ 3 _ (by decide) true (by decide)).mono ?_
  rintro e w6 ⟨rfl, hb6⟩
  have hF : Below w.heap.size w w6 := below_next (below_next (below_next (below_next (below_next (below_next hb3' (below_alloc _ _)) hb4) (below_alloc _ _)) hb5) (below_alloc _ _)) hb6
  go_wp2_with fail
  go_ret
  exact ⟨rfl, hF⟩
end Go.Proofs.Ytkpabmhijpnchaa

/- Packed by pack.py (this session's own program): texts of the kit's printer and of my own, what is not used struck. -/
import Derived.RangeFuncBox
import Derived.RangeFuncLeaves
import Derived.Shelf.Abstract
import Derived.WalkKit
import Derived.OwnWalkIn
import Derived.TacticsInMore
import Derived.LoopNIn
import Derived.LoopIn
import Derived.IntWalk
import Derived.Laws.IdiomStrings
import Derived.Lib.AppendStr
import Derived.Test.YtkgkemihhfipaaaDoorProg
set_option linter.unusedVariables false
set_option linter.unusedSimpArgs false
namespace Go.Proofs.YtkgkemihhfipaaaDoor
open Go.RowKit Go.Shelf
attribute [local go_sem] Oper.semAt_some
def upto {α : Type} (f : Nat → α) (k : Nat) : List α := (List.range k).map f
theorem upto_succ {α : Type} (f : Nat → α) (k : Nat) : upto f (k + 1) = upto f k ++ [f k] := by simp [upto, List.range_succ]
theorem upto_length {α : Type} (f : Nat → α) (k : Nat) : (upto f k).length = k := by simp [upto]
structure Sealed0 (p : Prop) : Prop where mk :: (out : p)
def bk (ds : List (Fin 10)) (j : Nat) : Nat × Fin 10 := (ds.length - 1 - j, ds[ds.length - 1 - j]?.getD 0)
abbrev digEnc : Nat × Fin 10 → Array Value := fun x => #[.int .i64 (x.1 : Int), .int .u8 (48 + (x.2.val : Int))]
def Two (g s : Nat) (W W' : World) : Prop := W'.heap[g]? = W.heap[g]? ∧ W'.heap[s]? = W.heap[s]?
theorem Two.trans {g s : Nat} {A B C : World} (h : Two g s A B) (k : Two g s B C) : Two g s A C := ⟨k.1.trans h.1, k.2.trans h.2⟩
theorem Two.put {g s : Nat} {w : World} (hg : g < w.heap.size) (hs : s < w.heap.size) (W : World) (l : Nat) (o o' : Obj) (hl : w.heap.size ≤ l) (h : W.heap[l]? = some o) (_ : o.isCells = false) (_ : o.isWalk = false) : Two g s W (W.putObj l o') := by
  have hb := (Below.refl w.heap.size W).grown (grownBy_putObj' W l o') (by have := (Array.getElem?_eq_some_iff.1 h).1; omega) (fun k e => by cases e; omega)
  exact ⟨hb.block g hg, hb.block s hs⟩
set_option maxRecDepth 100000 in
set_option maxHeartbeats 2000000 in
theorem back1_in (F : Fence) (n : Nat) (h8 : F.fn 89) (hro : F.round = none) (hn : 1 ≤ n) (l s b cap : Nat) (ds : List (Fin 10)) (hreach : ds.length ≤ 1000) (J Jx : List (Nat × Fin 10) → World → Prop)
    (hY : ∀ pre x W, J pre W → pre.length < ds.length → YieldAt F (n - 1) Tryd.prog l (digEnc x) W fun e W' =>
      (e = .returned (.bool true) ∧ J (pre ++ [x]) W' ∧ Two b s W W') ∨ (e = .returned (.bool false) ∧ Jx (pre ++ [x]) W'))
    (W : World) (hBs : W.cell? ⟨s, 0, none⟩ = some (.slice (some ⟨b, 0, none⟩) ds.length cap)) (hc : ∀ j, j < ds.length → W.cell? ⟨b, j, none⟩ = some (.int .u8 (48 + ((ds[j]?.getD 0).val : Int)))) (h0 : J [] W) :
    CallsIn F n Tryd.prog 89 #[.func (.yield l) #[] #[], .pointer (some ⟨s, 0, none⟩)] W fun e W' => (∃ v, e = .returned v) ∧
      ((∃ ys, ys = upto (bk ds) ds.length ∧ J ys W') ∨ (∃ pre, (∃ k, k ≤ ds.length ∧ pre = upto (bk ds) k) ∧ Jx pre W')) := by
  refine callsIn_of_wp Tryd.func89 rfl h8 ?_ hro
  simp only [Tryd.ntmps89, List.size_toArray, List.length_cons, List.length_nil, Nat.reduceAdd, Nat.reduceSub, Array.replicate_succ, Array.replicate_zero, List.push_toArray, List.append_toArray, List.nil_append, List.cons_append]
  gi_wp2
  gi_loopw [3] (fun i wr => ∃ k : Nat, k ≤ ds.length ∧ i = .int .i64 ((ds.length : Int) - 1 - (k : Int)) ∧ J (upto (bk ds) k) wr ∧ Two b s W wr)
    (fun i _ => (intOf i + 1).toNat)
  case atStart => exact ⟨0, Nat.zero_le _, by simp, h0, rfl, rfl⟩
  case round =>
    obtain ⟨k, hk, rfl, hJs, hnx⟩ := hrel
    have hsx : wr.cell? ⟨s, 0, none⟩ = some (.slice (some ⟨b, 0, none⟩) ds.length cap) := (World.cell?_of_block (a := ⟨s, 0, none⟩) hnx.2).trans hBs
    by_cases hlt : k < ds.length
    · have hcx : wr.cell? ⟨b, ds.length - 1 - k, none⟩ = some (.int .u8 (48 + ((ds[ds.length - 1 - k]?.getD 0).val : Int))) := (World.cell?_of_block (a := ⟨b, ds.length - 1 - k, none⟩) hnx.1).trans (hc _ (by omega))
      obtain ⟨fn, tmps, assign, body, hy, hR⟩ := hY _ (bk ds k) wr hJs (by rw [upto_length]; exact hlt)
      have hR := Sealed0.mk hR
      obtain ⟨m, hm⟩ : ∃ m, ds.length - 1 - k = m := ⟨_, rfl⟩
      have hmi : (ds.length : Int) - 1 - (k : Int) = (m : Int) := by omega
      have hbk : bk ds k = (m, ds[m]?.getD 0) := by unfold bk; rw [hm]
      rw [hm] at hcx
      rw [hbk] at hy
      dsimp only [digEnc] at hy
      rw [hmi]
      have hm0 : m < ds.length := by omega
      have hem : ds[m]?.getD 0 = ds[m] := by simp [hm0]
      rw [hem] at hy hcx
      have HB := Sealed0.mk hbk
      have HM := Sealed0.mk hmi
      have HN := Sealed0.mk hm
      clear hmi hm hbk hem
      gi_wp2
      refine hR.out.mono ?_
      rintro e W3 (⟨rfl, hJ3, hk3⟩ | ⟨rfl, hJx3⟩)
      · gi_wp2
        go_roundw
        case rel => exact ⟨k + 1, by omega, by have := HM.out; simp; omega, by rw [upto_succ]; exact hJ3, hnx.trans hk3⟩
        case measure => simp [intOf]
      · gi_wp2
        refine bodyPost_ret (results_none rfl _ _ _) rfl ?_
        exact ⟨⟨_, rfl⟩, .inr ⟨_, ⟨k + 1, by omega, (upto_succ _ _).symm⟩, hJx3⟩⟩
    · obtain rfl : k = ds.length := by omega
      have he : (ds.length : Int) - 1 - (ds.length : Int) = -1 := by omega
      rw [he]
      clear he
      gi_wp2
      go_end0
      exact ⟨⟨_, rfl⟩, .inl ⟨_, rfl, hJs⟩⟩
set_option maxHeartbeats 1000000 in
theorem back_in (F : Fence) (n : Nat) (h6 : F.fn 81) (hro : F.round = none) (a : Option Addr) (len cap : Nat) (w : World) :
    CallsIn F n Tryd.prog 81 #[.slice a len cap] w fun e w' => e = .returned (.func (.func 89) #[] #[.pointer (some ⟨w.heap.size, 0, none⟩)]) ∧ w' = w.alloc (.cells #[.slice a len cap] 122) := by
  refine callsIn_of_wp Tryd.func81 rfl h6 ?_ hro
  simp only [Tryd.ntmps81, List.size_toArray, List.length_cons, List.length_nil, Nat.reduceAdd, Nat.reduceSub, Array.replicate_succ, Array.replicate_zero, List.push_toArray, List.append_toArray, List.nil_append, List.cons_append]
  gi_wp2
  go_ret
  exact ⟨rfl, rfl⟩
theorem back_stops (F : Fence) (n : Nat) (h8 : F.fn 89) (hro : F.round = none) (hn : 1 ≤ n) (s b cap : Nat) (ds : List (Fin 10)) (hreach : ds.length ≤ 1000) (w : World) (hs : s < w.heap.size) (hb : b < w.heap.size)
    (hc : w.cell? ⟨s, 0, none⟩ = some (.slice (some ⟨b, 0, none⟩) ds.length cap)) (hI : ∀ j, j < ds.length → w.cell? ⟨b, j, none⟩ = some (.int .u8 (48 + ((ds[j]?.getD 0).val : Int)))) :
    SeqStopsK F n Tryd.prog 89 #[.pointer (some ⟨s, 0, none⟩)] digEnc (Two b s) (fun ys => ys = upto (bk ds) ds.length) (fun pre => ∃ k, k ≤ ds.length ∧ pre = upto (bk ds) k) ds.length w := fun l J Jx W hW _ _ hY h0 => by
  have hc' := (hW.cell (p := ⟨s, 0, none⟩) hs).trans hc
  exact back1_in F n h8 hro hn l s b cap ds hreach J Jx hY W hc' (fun j hj => (hW.cell (p := ⟨b, j, none⟩) hb).trans (hI j hj)) h0
def tw (t : Bool) (d : Nat) : Nat := if t then d * 2 - d / 5 * 9 else d
def flip (t : Bool) (n : Nat) : Bool := if n % 2 = 0 then t else !t
theorem flip_succ (t : Bool) (n : Nat) : flip t (n + 1) = !flip t n := by
  unfold flip
  rcases Nat.mod_two_eq_zero_or_one n with h | h
  · rw [if_pos h, if_neg (show ¬ (n + 1) % 2 = 0 by omega)]
  · rw [if_neg (show ¬ n % 2 = 0 by omega), if_pos (show (n + 1) % 2 = 0 by omega), Bool.not_not]
def sumTo (t : Bool) (pre : List (Nat × Fin 10)) : Nat := (pre.zipIdx.map fun p => tw (flip t p.2) p.1.2.val).sum
theorem sumTo_snoc (t : Bool) (pre : List (Nat × Fin 10)) (x : Nat × Fin 10) : sumTo t (pre ++ [x]) = sumTo t pre + tw (flip t pre.length) x.2.val := by
  unfold sumTo
  rw [List.zipIdx_append, List.map_append, List.sum_append]
  simp
theorem tw_le (t : Bool) (d : Fin 10) : tw t d.val ≤ 9 := by
  unfold tw
  have := d.isLt
  split <;> omega
theorem sum_le9 : ∀ (l : List Nat), (∀ x ∈ l, x ≤ 9) → l.sum ≤ 9 * l.length
  | [], _ => Nat.le_refl _
  | x :: l, h => by
    have h1 := sum_le9 l fun y hy => h y (List.mem_cons_of_mem _ hy)
    have h2 := h x (List.mem_cons_self ..)
    rw [List.sum_cons, List.length_cons]
    omega
theorem sumTo_le (t : Bool) (pre : List (Nat × Fin 10)) : sumTo t pre ≤ 9 * pre.length := by
  have h := sum_le9 (pre.zipIdx.map fun p => tw (flip t p.2) p.1.2.val) (by
    intro x hx
    obtain ⟨p, _, rfl⟩ := List.mem_map.1 hx
    exact tw_le _ _)
  rw [List.length_map, List.length_zipIdx] at h
  exact h
def digByte (d : Fin 10) : UInt8 := UInt8.ofNat (48 + d.val)
theorem digByte_val (d : Fin 10) : ((digByte d).toNat : Int) = 48 + (d.val : Int) := by
  unfold digByte
  have := d.isLt
  rw [UInt8.toNat_ofNat']
  omega
theorem two_boxes (W : World) (N : Nat) (v : Int) (q : Nat) (hv : v = (q : Int)) (u : Bool) (x y : Value) (hc : W.cell? ⟨N + 1, 0, none⟩ = some x) (hf : W.frozen? ⟨N + 1, 0, none⟩ = false) (hct : W.cell? ⟨N, 0, none⟩ = some y) (hft : W.frozen? ⟨N, 0, none⟩ = false) :
    ((W.setCell ⟨N + 1, 0, none⟩ (.int .i64 v)).setCell ⟨N, 0, none⟩ (.bool u)).cell? ⟨N + 1, 0, none⟩ = some (.int .i64 (q : Int)) ∧ ((W.setCell ⟨N + 1, 0, none⟩ (.int .i64 v)).setCell ⟨N, 0, none⟩ (.bool u)).frozen? ⟨N + 1, 0, none⟩ = false ∧
      ((W.setCell ⟨N + 1, 0, none⟩ (.int .i64 v)).setCell ⟨N, 0, none⟩ (.bool u)).cell? ⟨N, 0, none⟩ = some (.bool u) ∧ ((W.setCell ⟨N + 1, 0, none⟩ (.int .i64 v)).setCell ⟨N, 0, none⟩ (.bool u)).frozen? ⟨N, 0, none⟩ = false := by
  subst hv
  have f1 := fun p => World.frozen?_setCells (N + 1) [.int .i64 (q : Int)] 0 W p
  have f2 := fun p => World.frozen?_setCells N [.bool u] 0 (W.setCell ⟨N + 1, 0, none⟩ (.int .i64 (q : Int))) p
  have c1 : (W.setCell ⟨N + 1, 0, none⟩ (.int .i64 (q : Int))).cell? ⟨N, 0, none⟩ = some y := (World.cell?_setCell_other W _ _ _ (by intro e; injection e with e1 e2; omega)).trans hct
  refine ⟨?_, (f2 _).trans ((f1 _).trans hf), World.cell?_setCell_same' _ _ _ (by rw [c1]; rfl), (f2 _).trans ((f1 _).trans hft)⟩
  rw [World.cell?_setCell_other _ _ _ _ (by intro e; injection e with e1 e2; omega)]
  exact World.cell?_setCell_same' _ _ _ (by rw [hc]; rfl)
set_option maxRecDepth 100000 in
set_option maxHeartbeats 2000000 in
theorem sum_in (F : Fence) (n : Nat) (h3 : F.fn 66) (h6 : F.fn 81) (h8 : F.fn 89) (hro : F.round = none) (hn : 3 ≤ n) (ds : List (Fin 10)) (s : ByteArray) (hs : s.data.toList = ds.map digByte) (hreach : ds.length ≤ 1000) (t : Bool) (w : World) :
    CallsIn F n Tryd.prog 66 #[.string s, .bool t] w fun e W' => e = .returned (.int .i64 (sumTo t (upto (bk ds) ds.length) : Nat)) ∧ Below w.heap.size w W' := by
  have h1 : 1 ≤ n := by omega
  have kc := fun (w : World) => run_bytes_of_string (P := Tryd.prog) w 9 122 5 s Tryd.underlying9 Tryd.underlying122 Tryd.underlying5
  have hsz : s.size = ds.length := by
    have h := congrArg List.length hs
    rw [List.length_map, Array.length_toList] at h
    exact h
  refine callsIn_of_wp_marks Tryd.func66 rfl h3 ?_ hro
  simp only [Tryd.ntmps66, List.size_toArray, List.length_cons, List.length_nil, Nat.reduceAdd, Nat.reduceSub, Array.replicate_succ, Array.replicate_zero, List.push_toArray, List.append_toArray, List.nil_append, List.cons_append]
  gi_wp2_with (gi_at_call 81; refine (back_in F (n - 1) h6 hro _ _ _ _).mono ?_; rintro e w' ⟨rfl, rfl⟩)
  obtain ⟨cp, hcp⟩ : ∃ cp, grownCap ((w.alloc (.cells #[.bool t] 4)).alloc (.cells #[.int .i64 0] 3)) ds.length 0 5 = cp := ⟨_, rfl⟩
  rw [hcp]
  obtain ⟨W1, hW1⟩ : ∃ W1, W1 = (w.alloc (.cells #[.bool t] 4)).alloc (.cells #[.int .i64 0] 3) := ⟨_, rfl⟩
  have z1 : W1.heap.size = w.heap.size + 1 + 1 := by rw [hW1]; simp
  have bT : Boxed W1 w.heap.size 4 (.bool t) := by rw [hW1]; exact (Boxed.new w _ _).alloc _
  have bN : Boxed W1 (w.heap.size + 1) 3 (.int .i64 0) := by
    have h := Boxed.new (w.alloc (.cells #[.bool t] 4)) 3 (.int .i64 0)
    rw [World.size_alloc] at h
    rw [hW1]; exact h
  have hB1 : Below w.heap.size w W1 := by rw [hW1]; exact ((Below.refl _ _).alloc (Nat.le_refl _) _).alloc (by simp) _
  rw [← hW1]
  clear hW1 hcp
  obtain ⟨bs, hbs⟩ : ∃ bs, bytesRow s cp = bs := ⟨_, rfl⟩
  have hby : ∀ j, j < ds.length → bs[j]? = some (.int .u8 (48 + ((ds[j]?.getD 0).val : Int))) := by
    intro j hj
    have hj' : j < s.data.size := by have : s.data.size = ds.length := hsz; omega
    rw [← hbs, bytesRow_at s cp j hj']
    have hx : s.data[j] = digByte ds[j] := by
      have h1 : s.data.toList[j]? = some s.data[j] := by rw [Array.getElem?_toList, Array.getElem?_eq_getElem hj']
      rw [hs, List.getElem?_map, List.getElem?_eq_getElem hj] at h1
      injection h1 with h1
      exact h1.symm
    rw [hx, digByte_val, List.getElem?_eq_getElem hj]
    rfl
  rw [hbs]
  obtain ⟨W2, hW2⟩ : ∃ W2, W2 = W1.alloc (.cells bs 5 (bs.size, bs.size + 1)) := ⟨_, rfl⟩
  have z2 : W2.heap.size = w.heap.size + 1 + 1 + 1 := by rw [hW2]; simp [z1]
  have hB2 : Below w.heap.size w W2 := by rw [hW2]; exact hB1.alloc hB1.size _
  have bT2 : Boxed W2 w.heap.size 4 (.bool t) := by rw [hW2]; exact bT.alloc _
  have bN2 : Boxed W2 (w.heap.size + 1) 3 (.int .i64 0) := by rw [hW2]; exact bN.alloc _
  have hrow : ∀ j, j < ds.length → W2.cell? ⟨w.heap.size + 1 + 1, j, none⟩ = some (.int .u8 (48 + ((ds[j]?.getD 0).val : Int))) := by
    intro j hj
    have h1 : W2.heap[w.heap.size + 1 + 1]? = some (.cells bs 5 (bs.size, bs.size + 1)) := by
      have := World.alloc_heap_new W1 (.cells bs 5 (bs.size, bs.size + 1))
      rw [z1] at this
      rw [hW2]; exact this
    rw [cell_of_row W2 _ j bs _ _ h1]
    exact hby j hj
  rw [← hW2]
  clear hW2 hby hbs kc
  obtain ⟨W3, hW3⟩ : ∃ W3, W3 = W2.alloc (.cells #[.slice (some ⟨w.heap.size + 1 + 1, 0, none⟩) ds.length cp] 122) := ⟨_, rfl⟩
  have z3 : W3.heap.size = w.heap.size + 1 + 1 + 1 + 1 := by rw [hW3]; simp [z2]
  have hB3 : Below w.heap.size w W3 := by rw [hW3]; exact hB2.alloc hB2.size _
  have bT3 : Boxed W3 w.heap.size 4 (.bool t) := by rw [hW3]; exact bT2.alloc _
  have bN3 : Boxed W3 (w.heap.size + 1) 3 (.int .i64 0) := by rw [hW3]; exact bN2.alloc _
  have bS3 : Boxed W3 (w.heap.size + 1 + 1 + 1) 122 (.slice (some ⟨w.heap.size + 1 + 1, 0, none⟩) ds.length cp) := by
    have h := Boxed.new W2 122 (.slice (some ⟨w.heap.size + 1 + 1, 0, none⟩) ds.length cp)
    rw [z2] at h
    rw [hW3]; exact h
  have hrow3 : ∀ j, j < ds.length → W3.cell? ⟨w.heap.size + 1 + 1, j, none⟩ = some (.int .u8 (48 + ((ds[j]?.getD 0).val : Int))) := by
    intro j hj
    rw [hW3]
    exact (((Below.refl W2.heap.size W2).alloc (Nat.le_refl _) _).cell (p := ⟨w.heap.size + 1 + 1, j, none⟩) (by show w.heap.size + 1 + 1 < W2.heap.size; omega)).trans (hrow j hj)
  rw [← hW3]
  clear hW3 bT bN bT2 bN2 hrow hB1 hB2
  have hWd : Below w.heap.size w W3.drew := hB3.drew
  have zd : W3.drew.heap.size = w.heap.size + 1 + 1 + 1 + 1 := z3
  refine wpIn_rangeFunc_ownG hro h1 (gf := 89) (lb := #[.pointer (some ⟨w.heap.size + 1 + 1 + 1, 0, none⟩)]) rfl h8 (enters_of Tryd.func89 (by kernel_rfl) rfl)
    (back_stops F (n - 1) h8 hro (by omega) (w.heap.size + 1 + 1 + 1) (w.heap.size + 1 + 1) cp ds hreach W3.drew (by omega) (by omega) bS3.cell hrow3) Two.trans (Two.put (by omega) (by omega)) (Below.refl _ _) (fun _ => rfl)
    (fun pre W => (W.cell? ⟨w.heap.size + 1, 0, none⟩ = some (.int .i64 (sumTo t pre : Nat)) ∧ W.frozen? ⟨w.heap.size + 1, 0, none⟩ = false ∧ W.cell? ⟨w.heap.size, 0, none⟩ = some (.bool (flip t pre.length)) ∧ W.frozen? ⟨w.heap.size, 0, none⟩ = false) ∧ Below w.heap.size w W)
    (fun _ _ _ => False)
    (OwnFrom.and (Own.from (fun s A B row hs hg hr => ⟨cell_kept hs.1 hg hr, (frozen_kept hs.1 hg hr).trans hs.2.1, cell_kept hs.2.2.1 hg hr, (frozen_kept hs.2.2.1 hg hr).trans hs.2.2.2⟩) _) (ownFrom_below (Nat.le_refl _) (by omega)))
    (fun _ _ _ _ _ hs _ _ => hs)
    ⟨⟨bN3.cell, bN3.frozen, bT3.cell, bT3.frozen⟩, hWd⟩
    (fun x => { tmps := #[.string s, .bool t, undef, .pointer (some ⟨w.heap.size, 0, none⟩), .int .i64 0, .pointer (some ⟨w.heap.size + 1, 0, none⟩), undef, .int .u8 (48 + (x.2.val : Int)), undef, .string s, .slice (some ⟨w.heap.size + 1 + 1, 0, none⟩) ds.length cp, .func (.func 89) #[] #[.pointer (some ⟨w.heap.size + 1 + 1 + 1, 0, none⟩)], .int .i64 (x.1 : Int), .int .u8 (48 + (x.2.val : Int)), undef, undef, undef, undef, undef, undef, undef, undef, undef, undef, undef, undef, undef, undef, undef, undef], defers := [] }) ?assign ?body ?done ?stop
  case assign =>
    intro l x W K hK
    gi_wp2
    exact hK
  case body =>
    rintro l pre x W ⟨⟨hc, hf, hct, hft⟩, hB⟩ hlt
    have hs9 := sumTo_le t pre
    have hx := x.2.isLt
    obtain ⟨d, hd⟩ : ∃ d, x.2.val = d := ⟨_, rfl⟩
    rw [hd] at hx ⊢
    obtain ⟨q, hq⟩ : ∃ q, sumTo t pre = q := ⟨_, rfl⟩
    rw [hq] at hc hs9
    have hb : q ≤ 9000 := by omega
    cases hfl : flip t pre.length with
    | false =>
      rw [hfl] at hct
      have HF := Sealed0.mk hfl
      have HD := Sealed0.mk hd
      have HQ := Sealed0.mk hq
      clear hfl hd hq
      gi_wp2
      refine ⟨((KeepsOthers.setCell _ _ _).trans (KeepsOthers.setCell _ _ _)).from _, ⟨(Below.heap_setCell _ _ _ _ (by show w.heap.size + 1 + 1 ≠ w.heap.size; omega)).trans (Below.heap_setCell _ _ _ _ (by show w.heap.size + 1 + 1 ≠ w.heap.size + 1; omega)), (Below.heap_setCell _ _ _ _ (by show w.heap.size + 1 + 1 + 1 ≠ w.heap.size; omega)).trans (Below.heap_setCell _ _ _ _ (by show w.heap.size + 1 + 1 + 1 ≠ w.heap.size + 1; omega))⟩, ?_, (hB.setCell (by simp) _).setCell (by simp) _⟩
      rw [sumTo_snoc, List.length_append, HQ.out, HF.out, HD.out]
      show _ ∧ _ ∧ _ = some (Value.bool (flip t (pre.length + 1))) ∧ _
      rw [flip_succ, HF.out]
      refine two_boxes W w.heap.size _ _ ?_ _ _ _ hc hf hct hft
      simp only [tw]
      simp; omega
    | true =>
      rw [hfl] at hct
      have HF := Sealed0.mk hfl
      have HD := Sealed0.mk hd
      have HQ := Sealed0.mk hq
      clear hfl hd hq
      gi_wp2
      refine ⟨((KeepsOthers.setCell _ _ _).trans (KeepsOthers.setCell _ _ _)).from _, ⟨(Below.heap_setCell _ _ _ _ (by show w.heap.size + 1 + 1 ≠ w.heap.size; omega)).trans (Below.heap_setCell _ _ _ _ (by show w.heap.size + 1 + 1 ≠ w.heap.size + 1; omega)), (Below.heap_setCell _ _ _ _ (by show w.heap.size + 1 + 1 + 1 ≠ w.heap.size; omega)).trans (Below.heap_setCell _ _ _ _ (by show w.heap.size + 1 + 1 + 1 ≠ w.heap.size + 1; omega))⟩, ?_, (hB.setCell (by simp) _).setCell (by simp) _⟩
      rw [sumTo_snoc, List.length_append, HQ.out, HF.out, HD.out]
      show _ ∧ _ ∧ _ = some (Value.bool (flip t (pre.length + 1))) ∧ _
      rw [flip_succ, HF.out]
      refine two_boxes W w.heap.size _ _ ?_ _ _ _ hc hf hct hft
      simp only [tw]
      simp; omega
  case done =>
    rintro D ys W hD rfl ⟨⟨hc, _⟩, hB⟩ hK
    gi_wp2
    refine ⟨by simp, .inl ⟨_, _, rfl, run_takeDeferred hK, ?_⟩⟩
    exact ⟨_, results_tmp rfl _ _ _, rfl, hB.trans (belowK_b (w := w) (Nat.le_refl _) W D _ _ (by omega) hK rfl rfl)⟩
  case stop =>
    rintro D c pre W _ _ h _
    exact h.elim
end Go.Proofs.YtkgkemihhfipaaaDoor

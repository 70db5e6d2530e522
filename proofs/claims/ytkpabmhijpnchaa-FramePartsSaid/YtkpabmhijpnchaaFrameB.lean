/- The frame's Put; copy into an own row. -/
import Derived.Test.YtkpabmhijpnchaaFrameA
import Derived.Laws.CopyOwn
import Derived.OwnWalk
set_option linter.unusedVariables false
set_option linter.unusedSimpArgs false
namespace Go.Proofs.Ytkpabmhijpnchaa
open Go.RowKit
/-- copy into the first n elements of an own row, the source anywhere. -/
theorem wpList_copy_row {P : Program} {w : World} {ops : Array Oper} {rest : List Oper} {o : Oper} {a : Act} {Q : Exit → Act → World → Prop} (hgd : o.guard = none) (d s : Operand) (dT sT : TypeId)
    (ho : o.op = .call { callee := .builtin .copy, args := #[d, s], argTypes := #[dT, sT] }) (elem : TypeId) (hu : P.underlying dT = some (.slice elem)) (hsz : (P.info? elem).map (·.size) = some 1)
    (g off dLen dCap : Nat) (ad : Addr) (sLen sCap : Nat) (hd : a.eval d = .slice (some ⟨g, off, none⟩) dLen dCap) (hs : a.eval s = .slice (some ad) sLen sCap)
    (e : TypeId) (n cap : Nat) (xs : List Value) (h : Row w g e 1 n cap xs) (cs : List Value) (hn : cs.length = Nat.min sLen dLen)
    (hsrc : ∀ j v, cs[j]? = some v → w.cell? (ad.add j) = some v) (hfit : off + cs.length ≤ n) (h1 : ∀ v ∈ cs, v.oneCell' = true)
    (hK : ∀ w', Row w' g e 1 n cap (xs.take off ++ cs ++ xs.drop (off + cs.length)) → w.grownBy w' (some g) → wpList P ops Q rest (a.put o.dst (goInt cs.length)) w') : wpList P ops Q (o :: rest) a w := by
  obtain ⟨k1, k2, k3, cur, k4, k5, k6⟩ := h
  simp only [Nat.mul_one] at k1 k5 k6
  refine wpList_copy_own hgd d s dT sT ho elem hu hsz g off dLen dCap ad sLen sCap hd hs cur e k4 cs hn hsrc (by omega) h1 ?_
  refine hK _ ⟨?_, k2, k3, _, setRow_heap w g cur _ e _ k4, ?_, ?_⟩ ⟨rfl, rfl, rfl, by simp, fun k _ hk => setRow_other w g k _ (fun e => hk (by rw [e]))⟩
  · simp [k1]; omega
  · simp; omega
  · rw [← k6, List.take_take, List.drop_take, Nat.min_eq_left (by omega), Nat.mul_one]
    have hl : (cur.toList.take off ++ cs).length = off + cs.length := by simp; omega
    rw [← List.append_assoc, List.take_append, hl, List.take_of_length_le (by omega)]
def frameOf (bs : List UInt8) : List UInt8 := UInt8.ofNat (bs.length / 256) :: UInt8.ofNat (bs.length % 256) :: bs
theorem frame_cells (bs : List UInt8) (zs : List Value) (hz : zs.length = bs.length + 2) (h2 : bs.length ≤ 2048) :
    ((zs.set 0 (.int .u8 ((bs.length : Int) / 256))).set 1 (.int .u8 ((bs.length : Int) % 256))).take 2 ++ bv bs ++ ((zs.set 0 (.int .u8 ((bs.length : Int) / 256))).set 1 (.int .u8 ((bs.length : Int) % 256))).drop (2 + (bv bs).length) = bv (frameOf bs) := by
  have hl : (bv bs).length = bs.length := by simp [bv]
  rw [List.drop_eq_nil_of_le (by simp [hz, hl]; omega), List.append_nil]
  match zs, hz with
  | z0 :: z1 :: zr, _ =>
    have e1 : ((UInt8.ofNat (bs.length / 256)).toNat : Int) = (bs.length : Int) / 256 := by rw [UInt8.toNat_ofNat']; omega
    have e2 : ((UInt8.ofNat (bs.length % 256)).toNat : Int) = (bs.length : Int) % 256 := by rw [UInt8.toNat_ofNat']; omega
    simp [bv, frameOf, e1, e2]
    omega
theorem copy_here {P : Program} {w : World} {ops : Array Oper} {rest : List Oper} {o : Oper} {a : Act} {Q : Exit → Act → World → Prop} (d s : Operand) (dT sT : TypeId) (ho : o.op = .call { callee := .builtin .copy, args := #[d, s], argTypes := #[dT, sT] }) (h : wpList P ops Q (o :: rest) a w) : wpList P ops Q (o :: rest) a w := h
theorem made_row {w : World} {g : Nat} {e : TypeId} {m base : Nat} {xs : List Value} (h : w.ownsRow base e 1 (.slice (some ⟨g, 0, none⟩) m m) m xs) : Sealed (Row w g e 1 m m xs) := by
  rcases own_row h with ⟨h1, _⟩ | ⟨g', cap, h1, _, _, h2⟩
  · cases h1
  · injection h1 with h1 h3 h4
    injection h1 with h1
    injection h1 with h1
    subst h1
    subst h4
    exact ⟨h2⟩
theorem two_first {w : World} {g : Nat} {e : TypeId} {m : Nat} {xs : List Value} (h : Row w g e 1 m m xs) (hm : 2 ≤ m) (v : Value) : ∃ u0 u1, w.cell? ⟨g, 0, none⟩ = some u0 ∧ w.frozen? ⟨g, 0, none⟩ = false ∧ w.cell? ⟨g, 1, none⟩ = some u1 ∧ w.frozen? ⟨g, 1, none⟩ = false ∧ (w.setCell ⟨g, 0, none⟩ v).cell? ⟨g, 1, none⟩ = some u1 ∧ (w.setCell ⟨g, 0, none⟩ v).frozen? ⟨g, 1, none⟩ = false := by
  obtain ⟨u0, h0⟩ := Option.isSome_iff_exists.1 (h.cell (j := 0) (by omega)).1
  obtain ⟨u1, h1⟩ := Option.isSome_iff_exists.1 (h.cell (j := 1) (by omega)).1
  refine ⟨u0, u1, h0, h.frozen 0, h1, h.frozen 1, ?_, (h.set1 0 v (by omega)).frozen 1⟩
  rw [World.cell?_setCell_other _ _ _ _ (by simp)]
  exact h1
theorem frame_Put_ok (w : World) (S : Nat → Prop) (A : Option Addr) (c : Nat) (bs : List UInt8) (h : Rd w S 1 A bs.length (bv bs)) (h1 : 0 < bs.length) (h2 : bs.length ≤ 2048) :
    Calls Try.prog 33 #[.slice A bs.length c] w fun e w' => (∃ A' c', e = .returned (.tuple #[.slice A' (bs.length + 2) c', .int .i64 0]) ∧ w'.ownsRow w.heap.size 5 1 (.slice A' (bs.length + 2) c') (bs.length + 2) (bv (frameOf bs))) ∧ Below w.heap.size w w' := by
  obtain ⟨ad, rfl, _, hcc⟩ := h.2 h1
  have H := Sealed.mk h
  have HC := Sealed.mk hcc
  have hsz : (Try.prog.info? 5).map (·.size) = some 1 := by kernel_rfl
  clear hcc
  have g0 : ((bs.length : Int) == 0) = false := beq_eq_false_iff_ne.2 (by omega)
  have g1 : (2048 < (bs.length : Int)) = False := eq_false (by omega)
  have w1 : IntKind.wrap .i64 (2 + (bs.length : Int)) = ((bs.length + 2 : Nat) : Int) := (IntWalk.i64_in _ (by omega)).trans (by omega)
  obtain ⟨m, hm⟩ : ∃ m, bs.length + 2 = m := ⟨_, rfl⟩
  rw [hm] at w1 ⊢
  obtain ⟨i, hi, hz, hsize, hby⟩ := info_parts u8_info
  clear h
  go_enter Try.func33, Try.ntmps33
  go_wp2_with (first | (at_make; refine wpList_make_full _ rfl _ _ _ rfl w.heap.size 5 i (.int .u8 0) 1 Try.underlying25 hi hz hsize _ _ _ _ m rfl rfl rfl rfl (by rw [hby]; omega) (by simp only [maxLen]; omega) (Nat.le_refl _) ?_; intro w1 ho1 hg1; obtain ⟨hrow⟩ := made_row ho1; obtain ⟨u0, u1, c0, f0, c1, f1, d1, d2⟩ := two_first hrow (by omega) (.int .u8 ((bs.length : Int) / 256))) | (with_reducible refine copy_here (.tmp 29) (.tmp 30) _ _ rfl ?_; (refine wpList_copy_row rfl (.tmp 29) (.tmp 30) _ _ rfl 5 Try.underlying25 hsz w.heap.size 2 (m - 2) (m - 2) ad bs.length c rfl rfl 5 m m _ ((hrow.set1 0 _ (by omega)).set1 1 _ (by omega)) (bv bs) ?_ ?_ ?_ ?_ ?_; rotate_left 4; intro w3 hrow3 hg3; rotate_left 1)))

  case refine_1 => rw [show Nat.min bs.length (m - 2) = bs.length from Nat.min_eq_left (by omega)]; simp [bv]
  case refine_2 =>
    intro j v hv
    have hb : Below w.heap.size w w1 := (Below.refl _ _).grown hg1 (Nat.le_refl _) (by intro k hk; cases hk)
    exact cell_below ((hb.setCell (Nat.le_refl _) _).setCell (Nat.le_refl _) _) (HC.out j v hv)
  case refine_3 => simp [bv]; omega
  case refine_4 =>
    intro v hv
    simp only [bv, List.mem_map] at hv
    obtain ⟨x, _, rfl⟩ := hv
    rfl
  go_ret2
  have hb : Below w.heap.size w w1 := (Below.refl _ _).grown hg1 (Nat.le_refl _) (by intro k hk; cases hk)
  refine ⟨⟨_, _, rfl, ?_⟩, ((hb.setCell (Nat.le_refl _) _).setCell (Nat.le_refl _) _).grown hg3 (by have := hb.size; simpa using this) (by intro k hk; injection hk with hk; omega)⟩
  have hown := hrow3.own (Nat.le_refl _)
  have hx := frame_cells bs (madeCells (Value.int IntKind.u8 0).cells (m * 1)).toList (by have := hrow.1; omega) h2
  rw [hx] at hown
  exact hown
theorem frame_Put_none (w : World) (A : Option Addr) (c : Nat) : Calls Try.prog 33 #[.slice A 0 c] w fun e w' => e = .returned (.tuple #[.slice none 0 0, .int .i64 2]) ∧ Below w.heap.size w w' := by
  go_enter Try.func33, Try.ntmps33
  go_wp2
  go_ret2
  exact ⟨rfl, Below.refl _ _⟩
end Go.Proofs.Ytkpabmhijpnchaa

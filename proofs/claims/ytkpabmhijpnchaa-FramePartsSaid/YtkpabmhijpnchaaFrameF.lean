/- The frame's Feed. -/
import Derived.Test.YtkpabmhijpnchaaFrameD
import Derived.WalkMore
import Derived.ScopeJumps
set_option linter.unusedVariables false
set_option linter.unusedSimpArgs false
namespace Go.Proofs.Ytkpabmhijpnchaa
open Go.RowKit
theorem cell_two (W : World) (u v : Value) (t : TypeId) : Cell (W.alloc (.cells #[u, v] t)) W.heap.size 0 u ∧ Cell (W.alloc (.cells #[u, v] t)) W.heap.size 1 v := ⟨⟨by simp, by simp⟩, ⟨by simp, by simp⟩⟩
theorem two_rows {w : World} {S : Nat → Prop} {A B : Option Addr} {c d : Nat} {x y : List UInt8} (hx : Rd w S 1 A x.length (bv x)) (hy : Rd w S 1 B y.length (bv y)) (hc : x.length ≤ c) (hd : y.length ≤ d) (t : TypeId) :
    Rd2 (w.alloc (.cells #[.slice A x.length c, .slice B y.length d] t)) Anywhere (some ⟨w.heap.size, 0, none⟩) [x, y] :=
  ⟨[.slice A x.length c, .slice B y.length d], ⟨rfl, fun _ => ⟨_, rfl, trivial, World.news_of_block (heap_alloc_new w _)⟩⟩, ⟨A, c, rfl, hc, (hx.below (below_alloc _ _)).any⟩, ⟨B, d, rfl, hd, (hy.below (below_alloc _ _)).any⟩, trivial⟩
/-- What comes of bytes: the frames' bodies, the rest, whether a length may not be. -/
def feedOf : Nat → List UInt8 → List (List UInt8) × List UInt8 × Bool
  | 0, all => ([], all, false)
  | f + 1, all =>
    if 0 < firstOf all then
      let r := feedOf f (all.drop (firstOf all).toNat)
      ((all.take (firstOf all).toNat).drop 2 :: r.1, r.2)
    else ([], all, decide (firstOf all < 0))
theorem firstOf_le (all : List UInt8) (h : 0 < firstOf all) : 2 < firstOf all ∧ firstOf all ≤ all.length := by
  match all, h with
  | [], h => exact absurd h (by decide)
  | [x], h => exact absurd h (by simp [firstOf])
  | x :: y :: t, h =>
    unfold firstOf at h ⊢
    simp only at h ⊢
    split at h
    · omega
    · split at h
      · omega
      · rename_i h1 h2
        rw [if_neg h1, if_neg h2]
        omega
theorem wp_scope_label {P : Program} {a : Act} {w : World} {Q : Exit → Act → World → Prop} {c rest : Code} (l : Nat) (J : Act → World → Prop) (m : Act → World → Nat) (hf : findLabel c l = some (.seq .skip rest))
    (pass : ∀ (J' : Act → World → Prop) a w, J a w → (∀ a' w', J a' w' → m a' w' < m a w → J' a' w') → rest.wp P (Exit.jump l J' Q) a w)
    (first : (∀ a w, J a w → rest.wp P (Exit.jump l J Q) a w) → c.wp P (Exit.jump l J Q) a w) : (Code.scope c).wp P Q a w :=
  wp_scope_jumps l J m hf (first fun a w h => pass J a w h fun _ _ h _ => h) fun a w h => wp_seq (wp_skip (pass _ a w h fun _ _ h1 h2 => ⟨h1, h2⟩))
def sliceLen : Value → Nat | .slice _ n _ => n | _ => 0
/-- What comes of bytes at once. -/
def feed (all : List UInt8) : List (List UInt8) × List UInt8 × Bool := feedOf (all.length + 1) all
theorem feedOf_more : ∀ (f g : Nat) (all : List UInt8), all.length < f → all.length < g → feedOf f all = feedOf g all
  | f + 1, g + 1, all, hf, hg => by
    unfold feedOf
    by_cases h : 0 < firstOf all
    · have hl := firstOf_le all h
      rw [if_pos h, if_pos h, feedOf_more f g _ (by rw [List.length_drop]; omega) (by rw [List.length_drop]; omega)]
    · rw [if_neg h, if_neg h]
  | 0, _, all, hf, _ => by omega
  | _ + 1, 0, all, _, hg => by omega
theorem feed_step (all : List UInt8) (n : Nat) (hn : firstOf all = (n : Int)) (h : 0 < n) : feed all = ((all.take n).drop 2 :: (feed (all.drop n)).1, (feed (all.drop n)).2) := by
  have hp : 0 < firstOf all := by omega
  have hl := firstOf_le all hp
  have e : (firstOf all).toNat = n := by omega
  unfold feed
  conv => lhs; unfold feedOf
  rw [if_pos hp, e, feedOf_more all.length ((all.drop n).length + 1) (all.drop n) (by rw [List.length_drop]; omega) (by omega)]
theorem feed_end (all : List UInt8) (h : ¬ 0 < firstOf all) : feed all = ([], all, decide (firstOf all < 0)) := by
  unfold feed feedOf
  rw [if_neg h]
/-- What the loop holds: the bytes that are left, what was told. -/
structure FeedIn (w : World) (B2 : Nat) (all : List UInt8) (w' : World) (A : Option Addr) (c : Nat) (rest : List UInt8) (O : Value) (vs : List Value) (done : List (List UInt8)) : Prop where
  hc : rest.length ≤ c
  le : rest.length ≤ all.length
  rd : Rd w' (fun k => w.heap.size + 1 < k ∧ k < B2) 1 A rest.length (bv rest)
  own : w'.ownsRow B2 25 1 O done.length vs
  el : All2 (RB w' (fun k => w.heap.size + 1 < k ∧ k < B2)) vs done
  few : done.length + rest.length ≤ all.length
  below : Below w.heap.size w w'
  size : B2 ≤ w'.heap.size
  lo : w.heap.size + 1 < B2
  c0 : Cell w' (w.heap.size + 1) 0 (.slice none 0 0)
  c1 : Cell w' (w.heap.size + 1) 1 (.bool false)
  says : feed all = (done ++ (feed rest).1, (feed rest).2)
theorem FeedIn.step {w w1 w2 w4 : World} {B2 : Nat} {all : List UInt8} {A1 : Option Addr} {c1 : Nat} {rest : List UInt8} {O : Value} {vs : List Value} {done : List (List UInt8)} (h : FeedIn w B2 all w1 A1 c1 rest O vs done) {n : Nat} (hn : firstOf rest = (n : Int)) (h0 : 2 < n) (hl : n ≤ rest.length)
    (hb2 : Below w1.heap.size w1 w2) {x : Obj} {A4 : Option Addr} {c4 : Nat} {X : Value} (hX : X = .slice (A1.map (·.add 2)) (n - 2) (n - 2)) (ho4 : w4.ownsRow B2 25 1 (.slice A4 (done.length + 1) c4) (done.length + 1) (vs ++ [X])) (hg : (w2.alloc x).grownBy w4 O.ownBlock) :
    FeedIn w B2 all w4 (if c1 = n then A1 else A1.map (·.add n)) (c1 - n) (rest.drop n) (.slice A4 (done.length + 1) c4) (vs ++ [X]) (done ++ [(rest.take n).drop 2]) := by
  have hz := h.size
  have hlo := h.lo
  have hz2 := hb2.size
  have hb4 : Below B2 w1 w4 := ((hb2.mono hz).alloc (by omega) x).grown hg (by simp; omega) (own_base h.own)
  have hkeep : ∀ k, (w.heap.size + 1 < k ∧ k < B2) → w4.heap[k]? = w1.heap[k]? := fun k hk => hb4.block k hk.2
  have hw : Below w.heap.size w w4 := h.below.trans (hb4.mono (by omega))
  have rd4 := h.rd.keep hkeep
  refine ⟨?_, ?_, ?_, ?_, ?_, ?_, hw, ?_, hlo, ?_, ?_, ?_⟩
  · have := h.hc
    rw [List.length_drop]; omega
  · have := h.le
    rw [List.length_drop]; omega
  · have k := rd4.cut hl h.hc
    rw [Nat.mul_one, ← List.length_drop, ← bv_drop] at k
    exact k
  · rw [List.length_append]; exact ho4
  · refine (h.el.imp fun _ _ r => r.keep hkeep).append ⟨?_, trivial⟩
    have k := (rd4.head hl).cut (k := 2) (cap := n) (by omega) (Nat.le_refl _)
    rw [if_neg (by omega), Nat.mul_one, Nat.mul_one, ← bv_take, ← bv_drop] at k
    have e1 : ((rest.take n).drop 2).length = n - 2 := by rw [List.length_drop, List.length_take]; omega
    refine ⟨A1.map (·.add 2), n - 2, by rw [e1]; exact hX, by rw [e1]; exact Nat.le_refl _, by rw [e1]; exact k⟩
  · have := h.few
    rw [List.length_append, List.length_drop]
    simp only [List.length_cons, List.length_nil]; omega
  · have := hb4.size; omega
  · have := h.c0
    exact ⟨(hb4.cell (p := ⟨_, 0, none⟩) hlo).trans this.1, (hb4.frozen (p := ⟨_, 0, none⟩) hlo).trans this.2⟩
  · have := h.c1
    exact ⟨(hb4.cell (p := ⟨_, 1, none⟩) hlo).trans this.1, (hb4.frozen (p := ⟨_, 1, none⟩) hlo).trans this.2⟩
  · rw [h.says, feed_step rest n hn (by omega)]
    simp
def Fed (w : World) (all : List UInt8) (e : Ending) (w' : World) : Prop := ∃ A c O d, e = .returned (.tuple #[.agg #[.slice A (if (feed all).2.2 then 0 else (feed all).2.1.length) c, .bool (feed all).2.2], .slice O (feed all).1.length d, .int .i64 (if (feed all).2.2 then 12 else 0)]) ∧ (feed all).1.length ≤ d ∧
  Rd2 w' (fun k => w.heap.size ≤ k) O (feed all).1 ∧ ((feed all).2.2 = false → (feed all).2.1.length ≤ c ∧ Rd w' (fun k => w.heap.size ≤ k) 1 A (feed all).2.1.length (bv (feed all).2.1)) ∧ Below w.heap.size w w'
set_option maxHeartbeats 4000000 in
theorem frame_Feed (w : World) (A : Option Addr) (c : Nat) (R : List UInt8) (B : Option Addr) (d : Nat) (bs : List UInt8) (hR : Rd w Anywhere 1 A R.length (bv R)) (hB : Rd w Anywhere 1 B bs.length (bv bs)) (hc : R.length ≤ c) (hd : bs.length ≤ d) (h1 : R.length ≤ 10000) (h2 : bs.length ≤ 10000) (h3 : firstOf R = 0) :
    Calls Try.prog 34 #[.agg #[.slice A R.length c, .bool false], .slice B bs.length d] w (Fed w (R ++ bs)) := by
  have HR := Sealed.mk hR
  have HB := Sealed.mk hB
  have HF := Sealed.mk h3
  clear hR hB h3
  go_enter Try.func34, Try.ntmps34
  go_wp2
  refine wp_scope_label 0 (fun a' w' => ∃ B2 A1 c1 m rest O vs done u9 u10 u11 u12 u13 u14 u15 u16 u17 u18 u19 u20 u21 u22 u23 u24 u25 u26 u27 u28 u29 u30 u31 u32 u33 u34 u35 u36 u37 u38 u39 u40 u41 u42 u43 u44 u45, a' = { tmps := #[.agg #[.slice A R.length c, .bool false], .slice B bs.length d, .pointer (some ⟨w.heap.size, 0, none⟩), undef, .pointer (some ⟨w.heap.size + 1, 0, none⟩), .slice none 0 0, .int .i64 0, .slice A1 m c1, O, u9, u10, u11, u12, u13, u14, u15, u16, u17, u18, u19, u20, u21, u22, u23, u24, u25, u26, u27, u28, u29, u30, u31, u32, u33, u34, u35, u36, u37, u38, u39, u40, u41, u42, u43, u44, u45], defers := [] } ∧ Sealed (rest.length = m) ∧ Sealed (FeedIn w B2 (R ++ bs) w' A1 c1 rest O vs done)) (fun a' _ => sliceLen (a'.tmps.getD 7 undef)) rfl ?_ ?_
  · rintro J' a1 w1 ⟨B2, A1, c1, m, rest, O, vs, done, u9, u10, u11, u12, u13, u14, u15, u16, u17, u18, u19, u20, u21, u22, u23, u24, u25, u26, u27, u28, u29, u30, u31, u32, u33, u34, u35, u36, u37, u38, u39, u40, u41, u42, u43, u44, u45, rfl, ⟨rfl⟩, hin⟩ hJ
    obtain ⟨r, hr⟩ : ∃ r, firstOf rest = r := ⟨_, rfl⟩
    have HRR := Sealed.mk hr
    clear hr
    have hle := hin.out.le
    rw [List.length_append] at hle
    have hfew := hin.out.few
    rw [List.length_append] at hfew
    obtain ⟨OA, OC, rfl, hoc⟩ := own_slice hin.out.own
    have hB2 := hin.out.size
    have hlo := hin.out.lo
    rcases Int.lt_trichotomy r 0 with hneg | rfl | hpos
    · go_wp2_with fail
      refine (frame_first _ _ A1 c1 rest hin.out.rd (by omega) r HRR.out).mono ?_
      rintro e w2 ⟨rfl, hb2⟩
      have hk0 := hin.out.c0.below hb2
      have hk1 := hin.out.c1.below hb2
      have HK0 := hk0
      have HK1 := hk1
      obtain ⟨k0, f0⟩ := hk0
      obtain ⟨k1, f1⟩ := hk1
      have g1 : (0 < r) = False := eq_false (by omega)
      go_wp2_with fail
      have q0 := ((HK0.set_ (.slice none 0 0)).far (b' := w.heap.size + 1) (o' := 1) (.inr (by omega)) (.bool true)).1
      have q1 := ((HK1.far (b' := w.heap.size + 1) (o' := 0) (.inr (by omega)) (.slice none 0 0)).set_ (.bool true)).1
      have hfe : feed (R ++ bs) = (done, rest, true) := by rw [hin.out.says, feed_end rest (by rw [HRR.out]; omega), HRR.out]; simp [hneg]
      refine bodyPost_ret (v := .tuple #[.agg #[.slice none 0 0, .bool true], .slice OA done.length OC, .int .i64 12]) (by simp [results, Try.results34, go_sem, q0, q1]) rfl ?_
      unfold Fed
      rw [hfe]
      have hb2' := hb2.size
      refine ⟨none, 0, OA, OC, rfl, hoc, ?_, (fun h => by cases h), ((hin.out.below.trans (hb2.mono hin.out.below.size)).setCell (by simp) _).setCell (by simp) _⟩
      obtain ⟨A', c', he, _, hr⟩ := Rd2.of_own' (S := fun k => w.heap.size + 1 < k) (L := done) (own_below hin.out.own hb2) (hin.out.el.imp fun _ _ h => (h.below hb2).more fun _ hk => hk.1) (fun k hk => by omega)
      injection he with he
      subst he
      exact ((hr.set_ (p := ⟨w.heap.size + 1, 0, none⟩) (fun k hk => by show k ≠ w.heap.size + 1; omega) _).set_ (p := ⟨w.heap.size + 1, 1, none⟩) (fun k hk => by show k ≠ w.heap.size + 1; omega) _).more fun k hk => by omega
    · go_wp2_with fail
      refine (frame_first _ _ A1 c1 rest hin.out.rd (by omega) 0 HRR.out).mono ?_
      rintro e w2 ⟨rfl, hb2⟩
      go_wp2_with fail
      refine (clone_u8 _ _ A1 rest.length c1 (bv rest) (hin.out.rd.below hb2) (bv_one _) (by omega)).mono ?_
      rintro e w3 ⟨A3, c3, rfl, hc3, hown, hb3⟩
      have hk0 := (hin.out.c0.below hb2).below hb3
      have hk1 := (hin.out.c1.below hb2).below hb3
      have HK0 := hk0
      have HK1 := hk1
      obtain ⟨k0, f0⟩ := hk0
      obtain ⟨k1, f1⟩ := hk1
      go_wp2_with fail
      have q0 := ((HK0.set_ (.slice A3 rest.length c3)).far (b' := w.heap.size + 1) (o' := 1) (.inr (by omega)) (.bool false)).1
      have q1 := ((HK1.far (b' := w.heap.size + 1) (o' := 0) (.inr (by omega)) (.slice A3 rest.length c3)).set_ (.bool false)).1
      have hfe : feed (R ++ bs) = (done, rest, false) := by rw [hin.out.says, feed_end rest (by rw [HRR.out]; omega), HRR.out]; simp
      refine bodyPost_ret (v := .tuple #[.agg #[.slice A3 rest.length c3, .bool false], .slice OA done.length OC, .int .i64 0]) (by simp [results, Try.results34, go_sem, q0, q1]) rfl ?_
      unfold Fed
      rw [hfe]
      have hb2' := hb2.size
      have hb3' := hb3.size
      have hsz := hin.out.below.size
      refine ⟨A3, c3, OA, OC, rfl, hoc, ?_, fun _ => ⟨hc3, ?_⟩, ((hin.out.below.trans ((below_next hb2 hb3).mono hsz)).setCell (by simp) _).setCell (by simp) _⟩
      · obtain ⟨A', c', he, _, hr⟩ := Rd2.of_own' (S := fun k => w.heap.size + 1 < k) (L := done) (own_below (own_below hin.out.own hb2) hb3) (hin.out.el.imp fun _ _ h => ((h.below hb2).below hb3).more fun _ hk => hk.1) (fun k hk => by omega)
        injection he with he
        subst he
        exact ((hr.set_ (p := ⟨w.heap.size + 1, 0, none⟩) (fun k hk => by show k ≠ w.heap.size + 1; omega) _).set_ (p := ⟨w.heap.size + 1, 1, none⟩) (fun k hk => by show k ≠ w.heap.size + 1; omega) _).more fun k hk => by omega
      · have hr := Rd.of_own hown
        exact ((hr.set_ (p := ⟨w.heap.size + 1, 0, none⟩) (fun k hk => by show k ≠ w.heap.size + 1; omega) _).set_ (p := ⟨w.heap.size + 1, 1, none⟩) (fun k hk => by show k ≠ w.heap.size + 1; omega) _).more fun k hk => by omega
    · obtain ⟨n, rfl⟩ : ∃ n : Nat, r = (n : Int) := ⟨r.toNat, by omega⟩
      have hl := firstOf_le rest (by rw [HRR.out]; exact hpos)
      rw [HRR.out] at hl
      have hc1 := hin.out.hc
      obtain ⟨ad, rfl, _⟩ := hin.out.rd.2 (by omega)
      have hl2 : 2 < n := by omega
      have hln : n ≤ rest.length := by omega
      go_wp2_with fail
      refine (frame_first _ _ (some ad) c1 rest hin.out.rd (by omega) n HRR.out).mono ?_
      rintro e w2 ⟨rfl, hb2⟩
      have hb2' := hb2.size
      have hxr : Value.slice (some ⟨ad.block, ad.off + 2, none⟩) (n - 2) (n - 2) = .slice ((some ad : Option Addr).map (·.add 2)) (n - 2) (n - 2) := by rw [Option.map_some, add_pos' ad (by omega)]
      have HXR := Sealed.mk hxr
      clear hxr
      by_cases hcn : c1 = n
      · subst hcn
        go_wp2_with (at_builtin; refine wpList_append_any _ rfl (.tmp 28) (.tmp 33) _ rfl B2 25 _ 1 24 Try.underlying22 rows_info rfl (by omega) (.slice OA done.length OC) done.length vs rfl ((own_below hin.out.own hb2).alloc _) Anywhere _ 1 1 [.slice (some ⟨ad.block, ad.off + 2, none⟩) (c1 - 2) (c1 - 2)] rfl (Rd.boxed _ _ _).any ?h1 ?h2 ?h3 ?h4 ?_; (case h1 => intro u hu; simp at hu; subst hu; rfl); (case h2 => simp only [maxLen]; omega); (case h3 => omega); (case h4 => simp; omega); intro A4 c4 w4 hc4 ho4 hg4 hat4)
        go_step3
        have k := hin.out.step HRR.out hl2 hln hb2 HXR.out ho4 hg4
        rw [if_pos rfl, Nat.sub_self] at k
        refine ⟨rfl, hJ _ _ ⟨B2, _, _, _, rest.drop c1, _, _, _, _, _, _, _, _, _, _, _, _, _, _, _, _, _, _, _, _, _, _, _, _, _, _, _, _, _, _, _, _, _, _, _, _, _, _, _, _, rfl, ⟨by rw [List.length_drop]; omega⟩, ⟨k⟩⟩ ?_⟩
        show 0 < rest.length
        omega
      · go_wp2_with (at_builtin; refine wpList_append_any _ rfl (.tmp 28) (.tmp 33) _ rfl B2 25 _ 1 24 Try.underlying22 rows_info rfl (by omega) (.slice OA done.length OC) done.length vs rfl ((own_below hin.out.own hb2).alloc _) Anywhere _ 1 1 [.slice (some ⟨ad.block, ad.off + 2, none⟩) (n - 2) (n - 2)] rfl (Rd.boxed _ _ _).any ?h1 ?h2 ?h3 ?h4 ?_; (case h1 => intro u hu; simp at hu; subst hu; rfl); (case h2 => simp only [maxLen]; omega); (case h3 => omega); (case h4 => simp; omega); intro A4 c4 w4 hc4 ho4 hg4 hat4)
        go_step3
        have k := hin.out.step HRR.out hl2 hln hb2 HXR.out ho4 hg4
        rw [if_neg hcn, Option.map_some] at k
        refine ⟨rfl, hJ _ _ ⟨B2, _, _, _, rest.drop n, _, _, _, _, _, _, _, _, _, _, _, _, _, _, _, _, _, _, _, _, _, _, _, _, _, _, _, _, _, _, _, _, _, _, _, _, _, _, _, _, rfl, ⟨by rw [List.length_drop]⟩, ⟨k⟩⟩ ?_⟩
        show rest.length - n < rest.length
        omega
  · intro go
    go_wp2_with fail
    obtain ⟨w0, hw0⟩ : ∃ w0, w0 = (w.alloc (.cells #[.slice A R.length c, .bool false] 65)).alloc (.cells #[.slice none 0 0, .bool false] 65) := ⟨_, rfl⟩
    have kb := cell_two (w.alloc (.cells #[.slice A R.length c, .bool false] 65)) (.slice none 0 0) (.bool false) 65
    have ka := cell_two w (.slice A R.length c) (.bool false) 65
    have ka0 := ka.1.old (.cells #[.slice none 0 0, .bool false] 65)
    have ka1 := ka.2.old (.cells #[.slice none 0 0, .bool false] 65)
    have hb0 : Below w.heap.size w w0 := by rw [hw0]; exact below_next (below_alloc _ _) (below_alloc _ _)
    have hz0 : w0.heap.size = w.heap.size + 2 := by rw [hw0]; simp
    have kb0 := kb.1
    have kb1 := kb.2
    rw [← hw0] at ka0 ka1 kb0 kb1 ⊢
    simp only [World.size_alloc] at kb0 kb1
    clear hw0 ka kb
    refine (frame_Right _ Anywhere A c R false (HR.out.below hb0) (by omega) true (by unfold rightOf; rw [HF.out]; rfl)).mono ?_
    rintro e w1 ⟨rfl, hb1⟩
    obtain ⟨ka0c, ka0f⟩ := ka0.below hb1
    obtain ⟨ka1c, ka1f⟩ := ka1.below hb1
    have kb0 := kb0.below hb1
    have kb1 := kb1.below hb1
    go_wp2_with fail
    have hr2 := two_rows ((HR.out.below hb0).below hb1) ((HB.out.below hb0).below hb1) hc hd 25
    have hs : sumLen [R, bs] = R.length + bs.length := by simp [sumLen]
    refine (concat_any _ _ 2 [R, bs] hr2 (by simp) (by omega)).mono ?_
    rintro e w2 ⟨A2, c2, rfl, hc2, hown, hb2⟩
    have hfl : ([R, bs] : List (List UInt8)).flatten = R ++ bs := by simp
    rw [hfl, hs] at hown
    rw [hs] at hc2
    have hb1' := hb1.size
    have hb2' := hb2.size
    simp only [World.size_alloc] at hb2'
    have hb12 : Below w1.heap.size w1 w2 := below_next (below_alloc _ _) hb2
    have hin : FeedIn w w2.heap.size (R ++ bs) w2 A2 c2 (R ++ bs) (.slice none 0 0) [] [] := by
      refine ⟨by rw [List.length_append]; exact hc2, Nat.le_refl _, ?_, World.ownsRow_nil _ _ _ _, trivial, by simp, hb0.trans ((below_next hb1 hb12).mono (by omega)), Nat.le_refl _, by omega, kb0.below hb12, kb1.below hb12, rfl⟩
      have hr := Rd.of_own hown
      rw [List.length_append]
      exact hr.more fun k hk => ⟨by have := hk.1; simp at this; omega, hk.2⟩
    have HIN := Sealed.mk hin
    have hlen : (R ++ bs).length = R.length + bs.length := List.length_append
    have HLEN := Sealed.mk hlen
    clear hin hown hfl hs hlen hr2
    rw [show sumLen [R, bs] = R.length + bs.length from by simp [sumLen]]
    go_wp2_with fail
    go_step3
    rename_i hK
    exact hK _ _ (go _ _ ⟨w2.heap.size, A2, c2, R.length + bs.length, R ++ bs, .slice none 0 0, [], [], _, _, _, _, _, _, _, _, _, _, _, _, _, _, _, _, _, _, _, _, _, _, _, _, _, _, _, _, _, _, _, _, _, _, _, _, _, rfl, HLEN, HIN⟩)
end Go.Proofs.Ytkpabmhijpnchaa

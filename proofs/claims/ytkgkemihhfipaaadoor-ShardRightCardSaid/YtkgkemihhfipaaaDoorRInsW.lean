/- Packed by pack.py (this session's own program): texts of the kit's printer and of my own, what is not used struck. -/
import Derived.Test.YtkgkemihhfipaaaDoorRCellE
import Derived.Deep.RegionLaw
import Derived.Laws.Externs
set_option linter.unusedVariables false
set_option linter.unusedSimpArgs false
set_option linter.unusedSectionVars false
namespace Go.Proofs.YtkgkemihhfipaaaDoor.HK
open Go.RowKit Go.Proofs.YtkgkemihhfipaaaDoorW.PrintWords Go.Proofs.YtkgkemihhfipaaaDoorW.PrintLast Go.Proofs.YtkgkemihhfipaaaDoorW.PrintMore
theorem clone_e (w : World) (S : Nat → Prop) (A : Option Addr) (n c : Nat) (xs : List Value) (h : Rd w S 8 A n xs) (h1 : ∀ u ∈ xs, u.oneCell' = true) (hn : n ≤ 100000) :
    Calls Tryd.prog 41 #[.slice A n c] w (Made w 28 8 n xs) := by
  rcases A with _ | ad
  · have hn0 : n = 0 := by
      rcases Nat.eq_zero_or_pos n with h0 | h0
      · exact h0
      · obtain ⟨ad, he, _⟩ := h.2 h0
        cases he
    subst hn0
    have hx : xs = [] := List.eq_nil_of_length_eq_zero (by simpa using h.1)
    subst hx
    have heq := Lib.run_eql_slice_nil (P := Tryd.prog) w 22 28 none 0 c 0 0 Tryd.underlying22
    go_enter Tryd.func41, Tryd.ntmps41
    go_wp2
    go_ret
    exact ⟨_, _, rfl, Nat.zero_le _, World.ownsRow_nil _ _ _ _, Below.refl _ _⟩
  · have heq := Lib.run_eql_slice_nil (P := Tryd.prog) w 22 28 (some ad) n c 0 0 Tryd.underlying22
    go_enter Tryd.func41, Tryd.ntmps41
    go_wp2_with (at_builtin; refine wpList_append_any _ rfl (.tmp 5) (.tmp 6) _ rfl w.heap.size 28 _ 8 88 Tryd.underlying22 info28 rfl (by omega) _ 0 [] rfl (own_new w _ 8) S (some ad) n c xs rfl (h.below ((Below.refl _ _).alloc (Nat.le_refl _) _)) h1 (by simp only [maxLen]; omega) (by omega) (by simp) ?_; intro A1 c1 w1 hc1 hown hg hat)
    go_ret
    simp only [Nat.zero_add, List.nil_append] at hown hc1 ⊢
    refine ⟨A1, c1, rfl, hc1, hown, ((Below.refl _ _).alloc (Nat.le_refl _) _).grown hg (by simp) ?_⟩
    intro k hk
    injection hk with hk
    exact Nat.le_of_eq hk
def Put1 (w : World) (base n : Nat) (xs : List Value) (e : Ending) (w' : World) : Prop := ∃ A c, e = .returned (.slice A n c) ∧ n ≤ c ∧ w'.ownsRow base 28 8 (.slice A n c) n xs ∧ Below base w w'
set_option maxHeartbeats 4000000 in
set_option maxRecDepth 100000 in
theorem insert_end (w : World) (base : Nat) (A : Option Addr) (n c : Nat) (xs : List Value) (hown : w.ownsRow base 28 8 (.slice A n c) n xs) (hb : base ≤ w.heap.size) (vb : Nat) (vs : List Value) (hv : Row w vb 28 8 1 1 vs) (h1v : ∀ u ∈ vs, u.oneCell' = true) (hn : n ≤ 1000) :
    Calls Tryd.prog 40 #[.slice A n c, .int .i64 (n : Int), .slice (some ⟨vb, 0, none⟩) 1 1] w (Put1 w base (n + 1) (xs ++ vs)) := by
  have hnc : n ≤ c := by
    obtain ⟨A', c', he, hc⟩ := own_slice hown
    injection he with _ _ he
    omega
  have HO := Sealed.mk hown
  have HV := Sealed.mk (hv.rd (c := 1))
  have hlow : ∀ k, (Value.slice A n c).ownBlock = some k → base ≤ k := own_base hown
  have HL := Sealed.mk hlow
  clear hown hv hlow
  go_enter Tryd.func40, Tryd.ntmps40
  go_wp2_with (at_builtin; refine wpList_append_any _ rfl (.tmp 23) (.tmp 24) _ rfl base 28 _ 8 88 Tryd.underlying22 info28 rfl (by omega) _ n xs rfl HO.out (· = vb) (some ⟨vb, 0, none⟩) 1 1 vs rfl HV.out h1v (by simp only [maxLen]; omega) (by omega) hb ?_; intro A1 c1 w1 hc1 hown hg hat)
  all_goals (go_ret; exact ⟨A1, c1, rfl, hc1, hown, (Below.refl _ _).grown hg hb HL.out⟩)
theorem copy_here {P : Program} {w : World} {ops : Array Oper} {rest : List Oper} {o : Oper} {a : Act} {Q : Exit → Act → World → Prop} (d s : Operand) (dT sT : TypeId) (ho : o.op = .call { callee := .builtin .copy, args := #[d, s], argTypes := #[dT, sT] }) (h : wpList P ops Q (o :: rest) a w) : wpList P ops Q (o :: rest) a w := h
theorem add_lit (g o j : Nat) : (⟨g, o, none⟩ : Addr).add j = ⟨g, o + j, none⟩ := by unfold Addr.add; split <;> simp_all
theorem e_size : (Tryd.prog.info? 28).map (·.size) = some 8 := by kernel_rfl
set_option maxHeartbeats 4000000 in
set_option maxRecDepth 100000 in
theorem insert_grow (w : World) (base : Nat) (g n i : Nat) (xs : List Value) (h : Row w g 28 8 n n xs) (hgb : base ≤ g) (hb : base ≤ w.heap.size) (hi : i < n) (h1 : ∀ u ∈ xs, u.oneCell' = true) (vb : Nat) (vs : List Value) (hv : Row w vb 28 8 1 1 vs) (h1v : ∀ u ∈ vs, u.oneCell' = true) (hn : n ≤ 1000) :
    Calls Tryd.prog 40 #[.slice (some ⟨g, 0, none⟩) n n, .int .i64 (i : Int), .slice (some ⟨vb, 0, none⟩) 1 1] w (Put1 w base (n + 1) (xs.take (i * 8) ++ vs ++ xs.drop (i * 8))) := by
  have H := Sealed.mk h
  have HV := Sealed.mk hv
  have hin : (n = i) = False := eq_false (by omega)
  have g1 : ((i : Int) == (n : Int)) = false := by simp; omega
  have g2 : decide ((n : Int) < (n : Int) + 1) = true := by simp; omega
  have w1 : IntKind.wrap .i64 ((n : Int) + 1) = (n : Int) + 1 := IntWalk.i64_in _ (by omega)
  obtain ⟨k, hk⟩ : ∃ k, k = n + 1 - i := ⟨_, rfl⟩
  have w2 : IntKind.wrap .i64 ((n : Int) + 1 - (i : Int)) = (k : Int) := (IntWalk.i64_in _ (by omega)).trans (by omega)
  have w3 : IntKind.wrap .i64 ((i : Int) + 1) = ((i + 1 : Nat) : Int) := (IntWalk.i64_in _ (by omega)).trans (by omega)
  have hkk : i + k = n + 1 := by omega
  have hm0 := below_alloc
  have hki : 0 < k := by omega
  have b1 : (0 : Int) ≤ (i : Int) + 1 := by omega
  have b2 : i ≤ n := by omega
  clear h hv hk hm0
  go_enter Tryd.func40, Tryd.ntmps40
  go_wp2_with (first
    | (at_builtin; refine wpList_append_zeros _ rfl (.tmp 34) (.tmp 39) 22 3 28 rfl _ 8 88 .i64 Tryd.underlying22 Tryd.underlying3 info28 rfl (by omega) g i n _ (H.out.head (k := i) (by omega)) .i64 k hki (by omega) (by omega) (by omega) rfl rfl ?_; intro c1 wa ys hys hrow hgr; have hc1 := hrow.le; rw [hkk] at hrow hc1; have HRow := Sealed.mk hrow; clear hrow; have hci : (c1 = i) = False := eq_false (by omega); have hci2 : (c1 = i + 1) = False := eq_false (by omega); have hbw : Below w.heap.size w wa := (Below.refl _ _).grown hgr (Nat.le_refl _) (by intro k hk; cases hk))
    | (with_reducible refine copy_here (.tmp 43) (.tmp 44) _ _ rfl ?_; refine wpList_copy_in _ rfl (.tmp 43) (.tmp 44) _ _ rfl 28 8 Tryd.underlying22 e_size w.heap.size (n + 1) c1 _ HRow.out i (i * 8) (n + 1 - i) (c1 - i) rfl ⟨vb, 0, none⟩ 1 1 1 ?hm vs ?hl ?hfit rfl rfl ?hsrc h1v ?_; (case hm => exact Nat.min_eq_left (by omega)); (case hl => exact HV.out.len); (case hfit => omega); (case hsrc => intro j v hv; rw [add_new]; exact cell_below hbw (HV.out.at_ hv).1); intro wc hrow2 hgr2))
  obtain ⟨Y, hY⟩ : ∃ Y, Y = (xs.take (i * 8) ++ ys).take (i * 8) ++ vs ++ (xs.take (i * 8) ++ ys).drop ((i + 1) * 8) := ⟨_, rfl⟩
  rw [← hY] at hrow2
  have hx8 : xs.length = n * 8 := H.out.len
  have hv8 : vs.length = 1 * 8 := HV.out.len
  have htl : (xs.take (i * 8)).length = i * 8 := by rw [List.length_take]; omega
  have hYt : Y.take ((i + 1) * 8) = xs.take (i * 8) ++ vs := by
    rw [hY, List.take_left' htl, List.take_left' (by rw [List.length_append, htl]; omega)]
  have hYl : Y.length = (n + 1) * 8 := hrow2.len
  have hbc : ∀ j v, xs[j]? = some v → wc.cell? ⟨g, j, none⟩ = some v := by
    intro j v hv
    have h3 := cell_below hbw (H.out.at_ hv).1
    exact hgr2.cell h3 (by have := H.out.lt; intro he; injection he with he; have he : g = w.heap.size := he; omega)
  have HR2 := Sealed.mk hrow2
  have HBC := Sealed.mk hbc
  have HY := Sealed.mk hYt
  clear hrow2 hbc hYt hY
  go_region_law (refine step_copy_in wc.drew rfl (.tmp 50) (.tmp 53) 22 22 rfl 28 8 Tryd.underlying22 e_size w.heap.size (n + 1) c1 Y HR2.out (i + 1) ((i + 1) * 8) (n - i) (c1 - (i + 1)) rfl ⟨g, i * 8, none⟩ (n - i) (n - i) (n - i) ?hm2 (xs.drop (i * 8)) ?hl2 ?hf2 (by simp [Act.eval, Act.put]) (by simp [Act.eval, Act.put]) ?hs2 ?h12 ?_; (case hm2 => exact Nat.min_self _); (case hl2 => rw [List.length_drop, hx8, Nat.sub_mul]); (case hf2 => omega); (case hs2 => intro j v hv; rw [List.getElem?_drop] at hv; rw [add_lit]; exact HBC.out _ v hv); (case h12 => exact fun v hv => h1 v (List.mem_of_mem_drop hv)); intro wd hrow3 hgr3)
  go_wp2
  go_ret
  have e1 : i + 1 + (n - i) = n + 1 := by omega
  have hYd : Y.drop ((n + 1) * 8) = [] := List.drop_eq_nil_of_le (Nat.le_of_eq hYl)
  rw [e1, hYd, List.append_nil, HY.out] at hrow3
  refine ⟨_, c1, rfl, hc1, hrow3.own hb, ?_⟩
  have hbd : Below w.heap.size w wd := ((hbw.grown hgr2 (by have := hbw.size; omega) (by intro k hk; injection hk with hk; omega)).drew).grown hgr3 (by have := hbw.size; have := hgr2.size; show w.heap.size ≤ wc.heap.size; omega) (by intro k hk; injection hk with hk; omega)
  exact hbd.mono hb
theorem e_sizeOf (w : World) : (Go.sizeOf 28).run Tryd.prog w = .ok 8 w := by kernel_rfl
set_option maxHeartbeats 4000000 in
set_option maxRecDepth 100000 in
theorem insert_room (w : World) (base : Nat) (g n c i : Nat) (xs : List Value) (h : Row w g 28 8 n c xs) (hgb : base ≤ g) (hb : base ≤ w.heap.size) (hi : i < n) (hc : n + 1 ≤ c) (h1 : ∀ u ∈ xs, u.oneCell' = true) (vb : Nat) (hvb : vb ≠ g) (vs : List Value) (hv : Row w vb 28 8 1 1 vs) (h1v : ∀ u ∈ vs, u.oneCell' = true) (hn : n ≤ 1000) :
    Calls Tryd.prog 40 #[.slice (some ⟨g, 0, none⟩) n c, .int .i64 (i : Int), .slice (some ⟨vb, 0, none⟩) 1 1] w (Put1 w base (n + 1) (xs.take (i * 8) ++ vs ++ xs.drop (i * 8))) := by
  have hc0 : c * 8 ≠ 0 := by omega
  have hov : ∀ lb cb, (callFunc 63 #[.slice (some ⟨vb, 0, none⟩) 1 1, .slice (some ⟨g, (i + 1) * 8, none⟩) lb cb]).run Tryd.prog w = .ok (.value (.bool false)) w := fun lb cb => by
    rw [run_callFunc_extern Tryd.func63 (by kernel_rfl) (by kernel_rfl) (by kernel_rfl) (e := Extern.SlicesOverlaps.overlaps #[22, 22] #[4]) (by kernel_rfl),
      Lib.run_overlaps_apart w 22 4 28 Tryd.underlying22 8 e_sizeOf ⟨vb, 0, none⟩ ⟨g, (i + 1) * 8, none⟩ 1 1 lb cb hvb _ _ _ _ hv.shape h.shape hc0 (hv.frozen 0) (hv.frozen (1 * 8))]
    rfl
  obtain ⟨ys, hys, hmore⟩ := h.more 1 hc
  have hx8 : xs.length = n * 8 := h.len
  have hv8 : vs.length = 1 * 8 := hv.len
  have HX := Sealed.mk hmore
  have HV := Sealed.mk hv
  have hxy : (xs ++ ys).length = (n + 1) * 8 := hmore.len
  have hsrc : ∀ j v, xs[j]? = some v → w.cell? ⟨g, j, none⟩ = some v := fun j v hv => (h.at_ hv).1
  have HS := Sealed.mk hsrc
  have hlt := h.lt
  clear h hv hmore hsrc hc0
  have hci : (c = i) = False := eq_false (by omega)
  have hci2 : (c = i + 1) = False := eq_false (by omega)
  have g1 : ((i : Int) == (n : Int)) = false := by simp; omega
  have g2 : decide ((c : Int) < (n : Int) + 1) = false := by simp; omega
  have w1 : IntKind.wrap .i64 ((n : Int) + 1) = ((n + 1 : Nat) : Int) := (IntWalk.i64_in _ (by omega)).trans (by omega)
  have w3 : IntKind.wrap .i64 ((i : Int) + 1) = ((i + 1 : Nat) : Int) := (IntWalk.i64_in _ (by omega)).trans (by omega)
  have b1 : (0 : Int) ≤ (i : Int) + 1 := by omega
  have b2 : i ≤ n := by omega
  have b3 : (0 : Int) ≤ (n : Int) + 1 := by omega
  have b4 : n + 1 ≤ c := hc
  have b5 : (i : Int) ≤ (n : Int) + 1 := by omega
  go_enter Tryd.func40, Tryd.ntmps40
  go_wp2_with (simp only [hov])
  clear hov
  go_region_law (refine step_copy_in w.drew rfl (.tmp 73) (.tmp 76) 22 22 rfl 28 8 Tryd.underlying22 e_size g (n + 1) c (xs ++ ys) HX.out (i + 1) ((i + 1) * 8) (n - i) (c - (i + 1)) rfl ⟨g, i * 8, none⟩ (n + 1 - i) (c - i) (n - i) ?hm2 (xs.drop (i * 8)) ?hl2 ?hf2 (by simp [Act.eval, Act.put]) (by simp [Act.eval, Act.put]) ?hs2 ?h12 ?_; (case hm2 => exact Nat.min_eq_right (by omega)); (case hl2 => rw [List.length_drop, hx8, Nat.sub_mul]); (case hf2 => omega); (case hs2 => intro j v hv; rw [List.getElem?_drop] at hv; rw [add_lit]; exact HS.out _ v hv); (case h12 => exact fun v hv => h1 v (List.mem_of_mem_drop hv)); intro wb hrow1 hgr1)
  have e1 : i + 1 + (n - i) = n + 1 := by omega
  have hd0 : (xs ++ ys).drop ((n + 1) * 8) = [] := List.drop_eq_nil_of_le (Nat.le_of_eq hxy)
  have ht0 : ((xs ++ ys).take ((i + 1) * 8)).length = (i + 1) * 8 := by rw [List.length_take, hxy]; omega
  obtain ⟨Z, hZ⟩ : ∃ Z, Z = (xs ++ ys).take ((i + 1) * 8) ++ xs.drop (i * 8) := ⟨_, rfl⟩
  rw [e1, hd0, List.append_nil, ← hZ] at hrow1
  have hZt : Z.take (i * 8) = xs.take (i * 8) := by
    rw [hZ, List.take_append_of_le_length (by rw [ht0]; omega), List.take_take, Nat.min_eq_left (by omega), List.take_append_of_le_length (by rw [hx8]; omega)]
  have hZd : Z.drop ((i + 1) * 8) = xs.drop (i * 8) := by rw [hZ, List.drop_left' ht0]
  have HR := Sealed.mk hrow1
  have HZt := Sealed.mk hZt
  have HZd := Sealed.mk hZd
  have hvc : ∀ j v, vs[j]? = some v → wb.cell? ⟨vb, j, none⟩ = some v := by
    intro j v hv
    exact hgr1.cell (HV.out.at_ hv).1 (by intro he; injection he with he; exact hvb he)
  have HVC := Sealed.mk hvc
  have hg1 := Sealed.mk hgr1
  clear hrow1 hZt hZd hvc hZ hd0 ht0 hgr1
  go_wp2_with (with_reducible refine copy_here (.tmp 80) (.tmp 81) _ _ rfl ?_; refine wpList_copy_in _ rfl (.tmp 80) (.tmp 81) _ _ rfl 28 8 Tryd.underlying22 e_size g (n + 1) c _ HR.out i (i * 8) (n + 1 - i) (c - i) rfl ⟨vb, 0, none⟩ 1 1 1 ?hm vs ?hl ?hfit rfl rfl ?hsrc h1v ?_; (case hm => exact Nat.min_eq_left (by omega)); (case hl => exact HV.out.len); (case hfit => omega); (case hsrc => intro j v hv; rw [add_new]; exact HVC.out j v hv); intro wc hrow2 hgr2)
  go_ret
  rw [HZt.out, HZd.out] at hrow2
  have hbd : Below base w wc := (((Below.refl base w).drew).grown hg1.out hb (by intro k hk; injection hk with hk; omega)).grown hgr2 (by have := hg1.out.size; have h2 : w.drew.heap.size = w.heap.size := rfl; omega) (by intro k hk; injection hk with hk; omega)
  exact ⟨_, c, rfl, hc, hrow2.own hgb, hbd⟩
theorem insert_e (w : World) (base : Nat) (A : Option Addr) (n c i : Nat) (xs : List Value) (hown : w.ownsRow base 28 8 (.slice A n c) n xs) (hb : base ≤ w.heap.size) (hi : i ≤ n) (h1 : ∀ u ∈ xs, u.oneCell' = true) (vb : Nat) (hvb : ∀ k, (Value.slice A n c).ownBlock = some k → vb ≠ k) (vs : List Value) (hv : Row w vb 28 8 1 1 vs) (h1v : ∀ u ∈ vs, u.oneCell' = true) (hn : n ≤ 1000) :
    Calls Tryd.prog 40 #[.slice A n c, .int .i64 (i : Int), .slice (some ⟨vb, 0, none⟩) 1 1] w (Put1 w base (n + 1) (xs.take (i * 8) ++ vs ++ xs.drop (i * 8))) := by
  rcases Nat.eq_or_lt_of_le hi with rfl | hlt
  · have hx : xs.length = i * 8 := hown.1
    rw [List.take_of_length_le (Nat.le_of_eq hx), List.drop_eq_nil_of_le (Nat.le_of_eq hx), List.append_nil]
    exact insert_end w base A i c xs hown hb vb vs hv h1v hn
  · rcases own_row hown with ⟨_, h0, _⟩ | ⟨g, cap, he, hgb, _, hr⟩
    · omega
    · injection he with e1 e2 e3
      subst e1
      subst e3
      rcases Nat.eq_or_lt_of_le hr.le with hc | hc
      · subst hc
        exact insert_grow w base g n i xs hr hgb hb hlt h1 vb vs hv h1v hn
      · exact insert_room w base g n c i xs hr hgb hb hlt hc h1 vb (hvb g rfl) vs hv h1v hn
theorem e_zero : ∀ w : World, (zeroValue 28).run Tryd.prog w = .ok (.agg #[.int .u32 0, .string ⟨#[]⟩, .int .i64 0, .string ⟨#[]⟩, .int .u64 0, .string ⟨#[]⟩, .int .i64 0, .int .i64 0]) w := fun w => by kernel_rfl
theorem delete_e (w : World) (g n cap : Nat) (xs : List Value) (h : Row w g 28 8 n cap xs) (h1 : ∀ u ∈ xs, u.oneCell' = true) (i : Nat) (hi : i < n) :
    Calls Tryd.prog 43 #[.slice (some ⟨g, 0, none⟩) n cap, .int .i64 i, .int .i64 (i + 1)] w fun e w' => e = .returned (.slice (some ⟨g, 0, none⟩) (n - 1) cap) ∧ Row w' g 28 8 (n - 1) cap (xs.take (i * 8) ++ xs.drop ((i + 1) * 8)) ∧ w.grownBy w' (some g) := by
  have hcm : cap ≤ 9223372036854775807 := h.max
  have hnc : n ≤ cap := h.le
  have hlen := h.len
  have HR := Lib.hid h
  have H1 := Lib.hid (h.head (k := i) (by omega))
  obtain ⟨A, hA, hsrc⟩ : ∃ A : Addr, (if cap = i + 1 then some (⟨g, 0, none⟩ : Addr) else some ⟨g, (i + 1) * 8, none⟩) = some A ∧ Hid (∀ t u, (xs.drop ((i + 1) * 8))[t]? = some u → w.drew.cell? (A.add t) = some u) := by
    by_cases hc : cap = i + 1
    · refine ⟨⟨g, 0, none⟩, by simp [hc], fun t u hu => ?_⟩
      rw [List.drop_eq_nil_of_le (by omega)] at hu
      simp at hu
    · refine ⟨⟨g, (i + 1) * 8, none⟩, by simp [hc], fun t u hu => ?_⟩
      rw [List.getElem?_drop] at hu
      rw [add_lit]
      exact (h.at_ hu).1
  have s1 : Hid ((xs.drop ((i + 1) * 8)).length = (n - (i + 1)) * 8) := by simp [Hid]; omega
  have s2 : Hid (∀ u ∈ xs.drop ((i + 1) * 8), u.oneCell' = true) := fun u hu => h1 u (List.mem_of_mem_drop hu)
  have hic : i ≤ cap := by omega
  have hneq : ((i : Int) == (i : Int) + 1) = false := by simp; omega
  have hp0 : (0 : Int) ≤ (i : Int) + 1 := by omega
  have hp1 : (i : Int) + 1 ≤ (n : Int) := by omega
  clear h hlen h1
  go_enter Tryd.func43, Tryd.ntmps43
  go_wp2_with fail
  go_region_law (refine step_append_in w.drew rfl (.tmp 22) (.tmp 25) 22 rfl 28 _ 8 88 Tryd.underlying22 info28 g i cap _ H1.out (by simp [Act.eval, Act.put]) A (n - (i + 1)) (cap - (i + 1)) (xs.drop ((i + 1) * 8)) (by simp [Act.eval, Act.put]) s1.out hsrc.out s2.out (by omega) ?_; intro w1 hrow hgr)
  obtain ⟨w2, hcl, hrow2, hgr2⟩ := run_clear_behind (P := Tryd.prog) w1 22 28 _ 8 Tryd.underlying22 e_zero rfl (fun u hu => by simp [Value.cells] at hu; rcases hu with rfl | rfl | rfl | rfl | rfl | rfl | rfl | rfl <;> rfl) g (i + (n - (i + 1))) cap (n - (i + (n - (i + 1)))) (cap - (i + (n - (i + 1)))) ((i + (n - (i + 1))) * 8) _ hrow (by omega) (by omega) rfl (by omega)
  go_wp2
  go_ret
  have e1 : i + (n - (i + 1)) = n - 1 := by omega
  rw [e1] at hrow2 ⊢
  exact ⟨rfl, hrow2, World.grownBy.trans ⟨hgr.os, hgr.tape, hgr.output, hgr.size, hgr.block⟩ hgr2⟩
end Go.Proofs.YtkgkemihhfipaaaDoor.HK

/- Packed by pack.py (this session's own program): texts of the kit's printer and of my own, what is not used struck. -/
import Derived.Test.YtkgkemihhfipaaaDoorRBase2
import Derived.Lib.AppendZerosOnto
import Derived.Lib.Overlaps
set_option linter.unusedVariables false
set_option linter.unusedSimpArgs false
namespace Go.Proofs.YtkgkemihhfipaaaDoor
open Go.RowKit
section
variable {w w' : World} {g : Nat} {e : TypeId} {size n cap base : Nat} {xs : List Value}
theorem Row.len (h : Row w g e size n cap xs) : xs.length = n * size := h.1
theorem Row.le (h : Row w g e size n cap xs) : n ≤ cap := h.2.1
theorem Row.shape (h : Row w g e size n cap xs) : w.shape? g = some (e, cap * size) := by
  obtain ⟨h1, h2, h3, cur, h4, h5, h6⟩ := h
  simp [World.shape?, h4, h5]
theorem Row.max (h : Row w g e size n cap xs) : cap ≤ maxLen := h.2.2.1
theorem Row.more (h : Row w g e size n cap xs) (m : Nat) (hm : n + m ≤ cap) : ∃ ys, ys.length = m * size ∧ Row w g e size (n + m) cap (xs ++ ys) := by
  obtain ⟨h1, h2, h3, cur, h4, h5, h6⟩ := h
  have hs : (n + m) * size ≤ cap * size := Nat.mul_le_mul_right _ hm
  have ha : (n + m) * size = n * size + m * size := Nat.add_mul _ _ _
  refine ⟨(cur.toList.drop (n * size)).take (m * size), ?_, ?_, hm, h3, cur, h4, h5, ?_⟩
  · rw [List.length_take, List.length_drop, Array.length_toList]; omega
  · have hx : xs.length = n * size := h1
    have : ((cur.toList.drop (n * size)).take (m * size)).length = m * size := by rw [List.length_take, List.length_drop, Array.length_toList]; omega
    simp only [List.length_append, hx, this]
    omega
  · rw [ha, ← h6, List.take_add]
theorem Row.of_alloc (w : World) (e : TypeId) (size n cap : Nat) (xs zs : List Value) (hx : xs.length = n * size) (hn : n ≤ cap) (hc : cap ≤ maxLen) (hz : (xs ++ zs).length = cap * size) (arr : Array Value) (ha : arr.toList = xs ++ zs) : Row (w.alloc (.cells arr e)) w.heap.size e size n cap xs := by
  refine ⟨hx, hn, hc, arr, heap_alloc_new w _, by rw [← Array.length_toList, ha]; exact hz, ?_⟩
  rw [ha, ← hx, List.take_left]
end
section
variable {P : Program} (w : World)
theorem Row.run_copy (dT sT e : TypeId) (size : Nat) (hu : P.underlying dT = some (.slice e)) (hs : (P.info? e).map (·.size) = some size) (g n cap : Nat) (xs : List Value) (h : Row w g e size n cap xs)
    (off o dLen dCap : Nat) (ho : o = off * size) (a : Addr) (sLen sCap m : Nat) (hm : Nat.min sLen dLen = m) (cs : List Value) (hl : cs.length = m * size) (hfit : off + m ≤ n)
    (hsrc : ∀ j v, cs[j]? = some v → w.cell? (a.add j) = some v) (h1 : ∀ v ∈ cs, v.oneCell' = true) :
    ∃ w', (∀ ty, (Builtin.copy_ #[dT, sT] ty #[.slice (some ⟨g, o, none⟩) dLen dCap, .slice (some a) sLen sCap]).run P w = .ok (goInt m) w') ∧ Row w' g e size n cap (xs.take (off * size) ++ cs ++ xs.drop ((off + m) * size)) ∧ w.grownBy w' (some g) := by
  subst ho
  have hle : (off + m) * size ≤ n * size := Nat.mul_le_mul_right _ hfit
  have hcap : n * size ≤ cap * size := Nat.mul_le_mul_right _ h.2.1
  have ha : (off + m) * size = off * size + m * size := Nat.add_mul _ _ _
  have hld := run_loadCells_list (P := P) w a cs hsrc
  have hst := run_storeCells_cells (P := P) g (off * size) cs 0 w (fun j hj => (h.cell (by omega)).1) (fun j hj => (h.cell (by omega)).2) h1
  refine ⟨w.setCells g (off * size) cs, ?_, ?_, setCells_grown _ _ _ _⟩
  · intro ty
    cases hq : P.info? e with
    | none => simp [hq] at hs
    | some i =>
      have hi : i.size = size := by simpa [hq] using hs
      simp [Builtin.copy_, run_underlying hu, Builtin.lenOf, Builtin.firstCells, sizeOf, typeInfo, hq, hi, hm, ← hl, hld, hst]
  · have k := h.set_ (off * size) cs (by omega)
    rw [ha, ← hl]
    exact k
theorem wpList_copy_in {ops : Array Oper} {rest : List Oper} {o : Oper} {a : Act} {Q : Exit → Act → World → Prop} (hgd : o.guard = none) (d s : Operand) (dT sT : TypeId)
    (hop : o.op = .call { callee := .builtin .copy, args := #[d, s], argTypes := #[dT, sT] }) (e : TypeId) (size : Nat) (hu : P.underlying dT = some (.slice e)) (hs : (P.info? e).map (·.size) = some size) (g n cap : Nat) (xs : List Value) (h : Row w g e size n cap xs)
    (off p dLen dCap : Nat) (ho : p = off * size) (ad : Addr) (sLen sCap m : Nat) (hm : Nat.min sLen dLen = m) (cs : List Value) (hl : cs.length = m * size) (hfit : off + m ≤ n)
    (hd : a.eval d = .slice (some ⟨g, p, none⟩) dLen dCap) (hx : a.eval s = .slice (some ad) sLen sCap) (hsrc : ∀ j v, cs[j]? = some v → w.cell? (ad.add j) = some v) (h1 : ∀ v ∈ cs, v.oneCell' = true)
    (hK : ∀ w', Row w' g e size n cap (xs.take (off * size) ++ cs ++ xs.drop ((off + m) * size)) → w.grownBy w' (some g) → wpList P ops Q rest (a.put o.dst (goInt m)) w') : wpList P ops Q (o :: rest) a w := by
  obtain ⟨w', h2, h3, h4⟩ := Row.run_copy (P := P) w dT sT e size hu hs g n cap xs h off p dLen dCap ho ad sLen sCap m hm cs hl hfit hsrc h1
  refine wpList_plain hgd fun K hKK => ?_
  have h2' := h2 o.type
  unfold Oper.wp execOp
  simp only [hop, resolve, invoke, builtin, Sem.run_bind, Sem.run_pure, Result.andThen_ok, List.map_toArray, List.map_cons, List.map_nil, hd, hx, h2']
  exact hKK _ _ (hK w' h3 h4)
theorem step_copy_in {ops : Array Oper} {o : Oper} {a : Act} {K : Act → World → Prop} {Q : Exit → Act → World → Prop} {E : Prop} (hgd : o.guard = none) (d s : Operand) (dT sT : TypeId)
    (hop : o.op = .call { callee := .builtin .copy, args := #[d, s], argTypes := #[dT, sT] }) (e : TypeId) (size : Nat) (hu : P.underlying dT = some (.slice e)) (hs : (P.info? e).map (·.size) = some size) (g n cap : Nat) (xs : List Value) (h : Row w g e size n cap xs)
    (off p dLen dCap : Nat) (ho : p = off * size) (ad : Addr) (sLen sCap m : Nat) (hm : Nat.min sLen dLen = m) (cs : List Value) (hl : cs.length = m * size) (hfit : off + m ≤ n)
    (hd : a.eval d = .slice (some ⟨g, p, none⟩) dLen dCap) (hx : a.eval s = .slice (some ad) sLen sCap) (hsrc : ∀ j v, cs[j]? = some v → w.cell? (ad.add j) = some v) (h1 : ∀ v ∈ cs, v.oneCell' = true)
    (hK : ∀ w', Row w' g e size n cap (xs.take (off * size) ++ cs ++ xs.drop ((off + m) * size)) → w.grownBy w' (some g) → K (a.put o.dst (goInt m)) w') :
    if Region.wanted o (yielded ops a.tmps) = true then Oper.wp P o a w K Q else E := by
  have hw : Region.wanted o (yielded ops a.tmps) = true := by simp [Region.wanted, hgd]
  rw [if_pos hw]
  obtain ⟨w', h2, h3, h4⟩ := Row.run_copy (P := P) w dT sT e size hu hs g n cap xs h off p dLen dCap ho ad sLen sCap m hm cs hl hfit hsrc h1
  have h2' := h2 o.type
  unfold Oper.wp execOp
  simp only [hop, resolve, invoke, builtin, Sem.run_bind, Sem.run_pure, Result.andThen_ok, List.map_toArray, List.map_cons, List.map_nil, hd, hx, h2']
  exact hK w' h3 h4
theorem wpList_append_zeros {ops : Array Oper} {rest : List Oper} {o : Oper} {a : Act} {Q : Exit → Act → World → Prop} (hgd : o.guard = none) (s x : Operand) (t tn e : TypeId)
    (hop : o.op = .call { callee := .builtin .append, args := #[s, x], argTypes := #[t, tn] }) (z : Value) (size bytes : Nat) (kn : IntKind) (ht : P.underlying t = some (.slice e)) (htn : P.underlying tn = some (.int kn)) (hinfo : (P.info? e).map (fun i => (i.zero, i.size, i.bytes)) = some (some z, size, bytes)) (hzs : z.cells.size = size) (hsz : 0 < size)
    (g n cap : Nat) (xs : List Value) (h : Row w g e size n cap xs) (kq : IntKind) (k : Nat) (h0 : 0 < k) (hg : cap < n + k) (h63 : n + k ≤ 1000000) (hb : bytes ≤ 1000)
    (hs : a.eval s = .slice (some ⟨g, 0, none⟩) n cap) (hx : a.eval x = .int kq k)
    (hK : ∀ c' w' ys, ys.length = k * size → Row w' w.heap.size e size (n + k) c' (xs ++ ys) → w.grownBy w' none → wpList P ops Q rest (a.put o.dst (.slice (some ⟨w.heap.size, 0, none⟩) (n + k) c')) w') : wpList P ops Q (o :: rest) a w := by
  obtain ⟨i, hi, hz, hsize, hby⟩ := info_parts hinfo
  obtain ⟨q1, q2, q3, cur, q4, q5, q6⟩ := h
  have hold : (Builtin.firstCells i.size n (.slice (some ⟨g, 0, none⟩) n cap)).run P w.drew = .ok xs.toArray w.drew := by
    refine run_firstCells_some (P := P) (w := w.drew) i.size n ⟨g, 0, none⟩ n cap xs (by rw [q1, hsize]) fun j v hv => ?_
    have hr : Row w g e size n cap xs := ⟨q1, q2, q3, cur, q4, q5, q6⟩
    have := (hr.at_ hv).1
    rw [add_new]
    exact this
  have hcap : Builtin.nextslicecap (n + k) cap ≤ 2 * (n + k) := nextslicecap_le hg
  have hbb : i.bytes ≤ 1000 := by rw [hby]; exact hb
  have hm1 : k * i.bytes ≤ 1000000 * 1000 := Nat.mul_le_mul (by omega) hbb
  have hm2 : Builtin.nextslicecap (n + k) cap * i.bytes ≤ 2000000 * 1000 := Nat.mul_le_mul (by omega) hbb
  have hrun := Lib.run_append_grow_zeros (P := P) w t tn o.type e i z kq kn ht htn hi hz (some ⟨g, 0, none⟩) n cap xs hold k h0 (by rw [hsize]; exact hsz) hg (by omega) (by omega) (by omega)
  have hge := grownCap_ge w (n + k) cap e
  have hle := grownCap_le_maxLen w (n + k) cap e (by simp only [maxLen]; omega)
  obtain ⟨C, hC⟩ : ∃ C, grownCap w (n + k) cap e = C := ⟨_, rfl⟩
  rw [hC] at hrun hge hle
  have hz1 : (Builtin.zeroCells z.cells k).toList.length = k * size := by rw [Array.length_toList, size_zeroCells, hzs]
  have hz2 : (Builtin.zeroCells z.cells (C - (n + k))).toList.length = (C - (n + k)) * size := by rw [Array.length_toList, size_zeroCells, hzs]
  have hrow := Row.of_alloc w.drew e size (n + k) C (xs ++ (Builtin.zeroCells z.cells k).toList) (Builtin.zeroCells z.cells (C - (n + k))).toList (by rw [List.length_append, hz1, q1, Nat.add_mul]) hge hle (by rw [List.length_append, List.length_append, hz1, hz2, q1, ← Nat.add_mul, ← Nat.add_mul]; congr 1; omega) (xs.toArray ++ Builtin.zeroCells z.cells k ++ Builtin.zeroCells z.cells (C - (n + k))) (by simp)
  refine Lib.wpList_append_run w hgd s x t tn hop _ _ hs hx _ _ hrun ?_
  exact hK C _ _ hz1 hrow ((World.grownBy_alloc w.drew _ none).block |> fun h => ⟨rfl, rfl, rfl, (World.grownBy_alloc w.drew _ none).size, h⟩)
end
end Go.Proofs.YtkgkemihhfipaaaDoor

/- Packed by pack.py (this session's own program): texts of the kit's printer and of my own, what is not used struck. -/
import Derived.Test.YtkgkemihhfipaaaDoorRBase
set_option linter.unusedVariables false
set_option linter.unusedSimpArgs false
namespace Go.Proofs.YtkgkemihhfipaaaDoor
open Go.RowKit
def Row (w : World) (g : Nat) (e : TypeId) (size n cap : Nat) (xs : List Value) : Prop :=
  xs.length = n * size ∧ n ≤ cap ∧ cap ≤ maxLen ∧ ∃ cur, w.heap[g]? = some (.cells cur e (0, 0)) ∧ cur.size = cap * size ∧ cur.toList.take (n * size) = xs
section
variable {w w' : World} {g : Nat} {e : TypeId} {size n cap base : Nat} {xs : List Value}
theorem Row.own (h : Row w g e size n cap xs) (hb : base ≤ g) : w.ownsRow base e size (.slice (some ⟨g, 0, none⟩) n cap) n xs := by
  obtain ⟨h1, h2, h3, cur, h4, h5, h6⟩ := h
  exact ⟨h1, .inr ⟨g, cap, cur, rfl, hb, h4, h2, h3, h5, h6⟩⟩
theorem own_row {v : Value} (h : w.ownsRow base e size v n xs) : (v = .slice none 0 0 ∧ n = 0 ∧ xs = []) ∨ ∃ g cap, v = .slice (some ⟨g, 0, none⟩) n cap ∧ base ≤ g ∧ g < w.heap.size ∧ Row w g e size n cap xs := by
  obtain ⟨h1, h2⟩ := h
  rcases h2 with ⟨rfl, rfl⟩ | ⟨g, cap, cur, rfl, hb, hh, h3, h4, h5, h6⟩
  · exact .inl ⟨rfl, rfl, List.eq_nil_of_length_eq_zero (by simpa using h1)⟩
  · exact .inr ⟨g, cap, rfl, hb, (Array.getElem?_eq_some_iff.1 hh).1, h1, h3, h4, cur, hh, h5, h6⟩
theorem Row.lt (h : Row w g e size n cap xs) : g < w.heap.size := by
  obtain ⟨_, _, _, cur, h4, _⟩ := h
  exact (Array.getElem?_eq_some_iff.1 h4).1
theorem Row.move (h : Row w g e size n cap xs) (hk : w'.heap[g]? = w.heap[g]?) : Row w' g e size n cap xs := by
  obtain ⟨h1, h2, h3, cur, h4, r⟩ := h
  exact ⟨h1, h2, h3, cur, hk.trans h4, r⟩
theorem Row.rd (h : Row w g e size n cap xs) {c : Nat} : Rd w (· = g) size (some ⟨g, 0, none⟩) n xs := by
  refine ⟨h.1, fun _ => ⟨_, rfl, rfl, ?_⟩⟩
  exact (h.own (Nat.le_refl g)).cells (g := g) rfl
theorem Row.head (h : Row w g e size n cap xs) {k : Nat} (hk : k ≤ n) : Row w g e size k cap (xs.take (k * size)) := by
  obtain ⟨h1, h2, h3, cur, h4, h5, h6⟩ := h
  have hm : k * size ≤ n * size := Nat.mul_le_mul_right _ hk
  refine ⟨by rw [List.length_take, h1]; omega, Nat.le_trans hk h2, h3, cur, h4, h5, ?_⟩
  rw [← h6, List.take_take, Nat.min_eq_left hm]
theorem Row.cell (h : Row w g e size n cap xs) {j : Nat} (hj : j < cap * size) : (w.cell? ⟨g, j, none⟩).isSome = true ∧ w.frozen? ⟨g, j, none⟩ = false := by
  obtain ⟨h1, h2, h3, cur, h4, h5, h6⟩ := h
  refine ⟨?_, by simp [World.frozen?, h4]⟩
  rw [cell_of_row w g j cur e (0, 0) h4, Array.getElem?_eq_getElem (by omega)]
  rfl
theorem Row.at_ (h : Row w g e size n cap xs) {j : Nat} {u : Value} (hu : xs[j]? = some u) : w.cell? ⟨g, j, none⟩ = some u ∧ w.frozen? ⟨g, j, none⟩ = false := by
  have hc := (h.own (Nat.le_refl g)).cells (g := g) rfl j u hu
  rw [add_new] at hc
  refine ⟨hc, ?_⟩
  obtain ⟨h1, h2, h3, cur, h4, h5, h6⟩ := h
  simp [World.frozen?, h4]
theorem Row.frozen (h : Row w g e size n cap xs) (j : Nat) : w.frozen? ⟨g, j, none⟩ = false := by
  obtain ⟨h1, h2, h3, cur, h4, h5, h6⟩ := h
  simp [World.frozen?, h4]
end
theorem setCells_far {g : Nat} : ∀ (vs : List Value) (o : Nat) {w : World} (k : Nat), k ≠ g → (w.setCells g o vs).heap[k]? = w.heap[k]?
  | [], _, _, _, _ => rfl
  | v :: r, o, w, k, hk => by
    rw [World.setCells, setCells_far r (o + 1) k hk]
    exact Below.heap_setCell w ⟨g, o, none⟩ v k hk
theorem setCells_same (g : Nat) : ∀ (vs : List Value) (o : Nat) (w : World), (w.setCells g o vs).os = w.os ∧ (w.setCells g o vs).tape = w.tape ∧ (w.setCells g o vs).output = w.output ∧ (w.setCells g o vs).heap.size = w.heap.size
  | [], _, _ => ⟨rfl, rfl, rfl, rfl⟩
  | v :: r, o, w => by
    obtain ⟨h1, h2, h3, h4⟩ := setCells_same g r (o + 1) (w.setCell ⟨g, o, none⟩ v)
    rw [World.setCells]
    exact ⟨h1, h2, h3, by rw [h4]; simp [World.setCell]⟩
theorem setCells_row {g : Nat} {e : TypeId} : ∀ (vs : List Value) (o : Nat) (w : World) (cur : Array Value), w.heap[g]? = some (.cells cur e (0, 0)) → o + vs.length ≤ cur.size →
    ∃ cur', (w.setCells g o vs).heap[g]? = some (.cells cur' e (0, 0)) ∧ cur'.size = cur.size ∧ cur'.toList = cur.toList.take o ++ vs ++ cur.toList.drop (o + vs.length)
  | [], o, w, cur, h, _ => ⟨cur, h, rfl, by simp⟩
  | v :: r, o, w, cur, h, hl => by
    have h2 : (w.setCell ⟨g, o, none⟩ v).heap[g]? = some (.cells (cur.setIfInBounds o v) e (0, 0)) := by simp [World.setCell, Array.getElem?_modify, h]
    simp only [List.length_cons] at hl
    obtain ⟨cur', h3, h4, h5⟩ := setCells_row r (o + 1) (w.setCell ⟨g, o, none⟩ v) _ h2 (by simp; omega)
    refine ⟨cur', h3, by rw [h4]; simp, ?_⟩
    rw [h5, Array.toList_setIfInBounds]
    have ho : o < cur.toList.length := by rw [Array.length_toList]; omega
    rw [List.take_set, List.drop_set_of_lt (by omega)]
    simp only [List.length_cons]
    rw [show o + 1 + r.length = o + (r.length + 1) by omega]
    congr 1
    rw [List.take_succ_eq_append_getElem ho, List.set_append_right _ _ (by rw [List.length_take]; omega)]
    have ho' : o < cur.size := by omega
    simp [Nat.min_eq_left (Nat.le_of_lt ho')]
theorem setCells_grown (w : World) (g o : Nat) (vs : List Value) : w.grownBy (w.setCells g o vs) (some g) := by
  obtain ⟨h1, h2, h3, h4⟩ := setCells_same g vs o w
  exact ⟨h1, h2, h3, by omega, fun k _ hk => setCells_far vs o k (fun e => hk (by rw [e]))⟩
section
variable {w : World} {g : Nat} {e : TypeId} {size n cap : Nat} {xs : List Value}
theorem Row.behind (h : Row w g e size n cap xs) (o : Nat) (vs : List Value) (ho : n * size ≤ o) (hv : o + vs.length ≤ cap * size) : Row (w.setCells g o vs) g e size n cap xs := by
  obtain ⟨h1, h2, h3, cur, h4, h5, h6⟩ := h
  obtain ⟨cur', k1, k2, k3⟩ := setCells_row vs o w cur h4 (by omega)
  refine ⟨h1, h2, h3, cur', k1, by omega, ?_⟩
  rw [k3, List.append_assoc, List.take_append_of_le_length (by rw [List.length_take, Array.length_toList]; omega), List.take_take, Nat.min_eq_left ho, h6]
theorem Row.set_ (h : Row w g e size n cap xs) (o : Nat) (vs : List Value) (hv : o + vs.length ≤ n * size) : Row (w.setCells g o vs) g e size n cap (xs.take o ++ vs ++ xs.drop (o + vs.length)) := by
  obtain ⟨h1, h2, h3, cur, h4, h5, h6⟩ := h
  have hm : n * size ≤ cap * size := Nat.mul_le_mul_right _ h2
  obtain ⟨cur', k1, k2, k3⟩ := setCells_row vs o w cur h4 (by omega)
  refine ⟨by simp [h1]; omega, h2, h3, cur', k1, by omega, ?_⟩
  rw [k3, ← h6, List.take_take, List.drop_take, Nat.min_eq_left (by omega), List.take_append]
  have hl : (cur.toList.take o ++ vs).length = o + vs.length := by simp; omega
  rw [hl, List.take_of_length_le (by omega)]
end
section
variable {P : Program} (w : World)
theorem run_append_in (t ty e : TypeId) (z : Value) (size bytes : Nat) (ht : P.underlying t = some (.slice e)) (hinfo : (P.info? e).map (fun i => (i.zero, i.size, i.bytes)) = some (some z, size, bytes))
    (g n cap : Nat) (xs : List Value) (h : Row w g e size n cap xs) (ad : Addr) (m c : Nat) (news : List Value) (hl : news.length = m * size) (hnews : ∀ j u, news[j]? = some u → w.cell? (ad.add j) = some u) (h1 : ∀ u ∈ news, u.oneCell' = true)
    (hroom : n + m ≤ cap) :
    ∃ w', (Builtin.append_ #[t, t] ty #[.slice (some ⟨g, 0, none⟩) n cap, .slice (some ad) m c]).run P w = .ok (.slice (some ⟨g, 0, none⟩) (n + m) cap) w' ∧ Row w' g e size (n + m) cap (xs ++ news) ∧ w.grownBy w' (some g) := by
  obtain ⟨i, hi, hz, hsize, hby⟩ := info_parts hinfo
  subst hsize
  obtain ⟨k1, k2, k3, cur, k4, k5, k6⟩ := h
  have hfit : n * i.size + news.length ≤ cur.size := by rw [hl, k5, ← Nat.add_mul]; exact Nat.mul_le_mul_right _ hroom
  have hr := run_append_room (P := P) w t ty e i ht hi g n cap cur k4 ad m c news hl hnews h1 hroom hfit
  refine ⟨_, hr, ⟨by simp [k1, hl, Nat.add_mul], hroom, k3, _, setRow_heap w g cur _ e _ k4, ?_, ?_⟩, ⟨rfl, rfl, rfl, by simp, fun k _ hk => setRow_other w g k _ (fun e => hk (by rw [e]))⟩⟩
  · simp only [List.size_toArray, List.length_append, List.length_take, List.length_drop, Array.length_toList]
    omega
  · have hlen : (xs ++ news).length = (n + m) * i.size := by rw [List.length_append, k1, hl, Nat.add_mul]
    rw [k6, ← hlen]
    exact List.take_left
theorem step_append_in {ops : Array Oper} {o : Oper} {a : Act} {K : Act → World → Prop} {Q : Exit → Act → World → Prop} {E : Prop} (hgd : o.guard = none) (s x : Operand) (t : TypeId)
    (ho : o.op = .call { callee := .builtin .append, args := #[s, x], argTypes := #[t, t] })
    (e : TypeId) (z : Value) (size bytes : Nat) (ht : P.underlying t = some (.slice e)) (hinfo : (P.info? e).map (fun i => (i.zero, i.size, i.bytes)) = some (some z, size, bytes))
    (g n cap : Nat) (xs : List Value) (h : Row w g e size n cap xs) (hs : a.eval s = .slice (some ⟨g, 0, none⟩) n cap) (ad : Addr) (m c : Nat) (news : List Value) (hx : a.eval x = .slice (some ad) m c) (hl : news.length = m * size) (hnews : ∀ j u, news[j]? = some u → w.cell? (ad.add j) = some u) (h1 : ∀ u ∈ news, u.oneCell' = true)
    (hroom : n + m ≤ cap)
    (hK : ∀ w', Row w' g e size (n + m) cap (xs ++ news) → w.grownBy w' (some g) → K (a.put o.dst (.slice (some ⟨g, 0, none⟩) (n + m) cap)) w') :
    if Region.wanted o (yielded ops a.tmps) = true then Oper.wp P o a w K Q else E := by
  have hw : Region.wanted o (yielded ops a.tmps) = true := by simp [Region.wanted, hgd]
  rw [if_pos hw]
  obtain ⟨w', hrun, h2, h3⟩ := run_append_in (P := P) w t o.type e z size bytes ht hinfo g n cap xs h ad m c news hl hnews h1 hroom
  unfold Oper.wp execOp
  simp only [ho, resolve, invoke, builtin, Sem.run_bind, Sem.run_pure, Result.andThen_ok, List.map_toArray, List.map_cons, List.map_nil, hs, hx, hrun]
  exact hK w' h2 h3
theorem run_clear_behind (t e : TypeId) (z : Value) (size : Nat) (ht : P.underlying t = some (.slice e)) (hv : ∀ w, (zeroValue e).run P w = .ok z w) (hz : z.cells.size = size) (h1 : ∀ u ∈ z.cells.toList, u.oneCell' = true)
    (g n cap m c o : Nat) (xs : List Value) (h : Row w g e size n cap xs) (hm : 0 < m) (hs : 0 < size) (ho : o = n * size) (hn : n + m ≤ cap) :
    ∃ w', (∀ ty, (Builtin.clear_ #[t] ty #[.slice (some ⟨g, o, none⟩) m c]).run P w = .ok (.tuple #[]) w') ∧ Row w' g e size n cap xs ∧ w.grownBy w' (some g) := by
  subst ho
  have hlen : (Builtin.zeroCells z.cells m).toList.length = m * size := by rw [Array.length_toList, size_zeroCells, hz]
  have hfit : n * size + m * size ≤ cap * size := by rw [← Nat.add_mul]; exact Nat.mul_le_mul_right _ hn
  have hst := run_storeCells_cells (P := P) g (n * size) (Builtin.zeroCells z.cells m).toList 0 w (fun j hj => (h.cell (by omega)).1) (fun j hj => (h.cell (by omega)).2) (by
    intro v hv'
    simp only [Builtin.zeroCells, Array.toList_map, List.mem_map] at hv'
    obtain ⟨i, _, rfl⟩ := hv'
    have hi : i % z.cells.size < z.cells.size := Nat.mod_lt _ (by omega)
    rw [getElem!_pos z.cells _ hi]
    exact h1 _ (by simp))
  simp only [Nat.add_zero] at hst
  obtain ⟨m, rfl⟩ : ∃ k, m = k + 1 := ⟨m - 1, by omega⟩
  refine ⟨w.setCells g (n * size) (Builtin.zeroCells z.cells (m + 1)).toList, fun ty => by simp [Builtin.clear_, run_underlying ht, hv, hst], h.behind _ _ (Nat.le_refl _) (by rw [hlen]; exact hfit), setCells_grown _ _ _ _⟩
end
end Go.Proofs.YtkgkemihhfipaaaDoor

/- Slices of slices of bytes, as lists. Of no program. -/
import Derived.Test.YtkpabmhijpnchaaBase2
import Derived.Lib.Strings
import Derived.Laws.IdiomStrings
set_option linter.unusedVariables false
set_option linter.unusedSimpArgs false
namespace Go.Proofs.Ytkpabmhijpnchaa
open Go.RowKit
def bv (l : List UInt8) : List Value := l.map fun b => .int .u8 (b.toNat : Int)
theorem bv_length (l : List UInt8) : (bv l).length = l.length := by simp [bv]
theorem bv_one (l : List UInt8) : ∀ u ∈ bv l, u.oneCell' = true := by
  intro u hu
  obtain ⟨b, _, rfl⟩ := List.mem_map.1 hu
  rfl
theorem bv_append (l m : List UInt8) : bv (l ++ m) = bv l ++ bv m := by simp [bv]
theorem bv_take (l : List UInt8) (n : Nat) : bv (l.take n) = (bv l).take n := by simp [bv]
theorem bv_drop (l : List UInt8) (n : Nat) : bv (l.drop n) = (bv l).drop n := by simp [bv]
theorem bv_get (l : List UInt8) (i : Nat) (h : i < l.length) : (bv l)[i]? = some (.int .u8 (l[i].toNat : Int)) := by simp [bv, h]
/-- The slice value v holds the bytes x. -/
def RB (w : World) (S : Nat → Prop) (v : Value) (x : List UInt8) : Prop := ∃ A c, v = .slice A x.length c ∧ x.length ≤ c ∧ Rd w S 1 A x.length (bv x)
def All2 {α β : Type} (R : α → β → Prop) : List α → List β → Prop
  | [], [] => True
  | a :: as, b :: bs => R a b ∧ All2 R as bs
  | _, _ => False
section
variable {α β : Type} {R R' : α → β → Prop}
theorem All2.length : ∀ {as : List α} {bs : List β}, All2 R as bs → as.length = bs.length
  | [], [], _ => rfl
  | a :: as, b :: bs, h => by simp [h.2.length]
theorem All2.imp (hR : ∀ a b, R a b → R' a b) : ∀ {as : List α} {bs : List β}, All2 R as bs → All2 R' as bs
  | [], [], _ => trivial
  | a :: as, b :: bs, h => ⟨hR a b h.1, h.2.imp hR⟩
theorem All2.get : ∀ {as : List α} {bs : List β}, All2 R as bs → ∀ (i : Nat) (b : β), bs[i]? = some b → ∃ a, as[i]? = some a ∧ R a b
  | [], [], _, i, b, h => by simp at h
  | a :: as, b :: bs, h, 0, c, hc => by simp at hc; subst hc; exact ⟨a, rfl, h.1⟩
  | a :: as, b :: bs, h, i + 1, c, hc => by simpa using h.2.get i c (by simpa using hc)
theorem All2.append : ∀ {as : List α} {bs : List β} {cs : List α} {ds : List β}, All2 R as bs → All2 R cs ds → All2 R (as ++ cs) (bs ++ ds)
  | [], [], _, _, _, k => k
  | a :: as, b :: bs, _, _, h, k => ⟨h.1, h.2.append k⟩
theorem All2.take : ∀ {as : List α} {bs : List β} (n : Nat), All2 R as bs → All2 R (as.take n) (bs.take n)
  | [], [], n, _ => by simp [All2]
  | a :: as, b :: bs, 0, _ => trivial
  | a :: as, b :: bs, n + 1, h => ⟨h.1, h.2.take n⟩
theorem All2.drop : ∀ {as : List α} {bs : List β} (n : Nat), All2 R as bs → All2 R (as.drop n) (bs.drop n)
  | [], [], n, _ => by simp [All2]
  | a :: as, b :: bs, 0, h => h
  | a :: as, b :: bs, n + 1, h => h.2.drop n
end
theorem RB.below {w w' : World} {S : Nat → Prop} {v : Value} {x : List UInt8} (h : RB w S v x) (hb : Below w.heap.size w w') : RB w' S v x := by
  obtain ⟨A, c, e, hc, hr⟩ := h
  exact ⟨A, c, e, hc, hr.below hb⟩
theorem RB.keep {w w' : World} {S : Nat → Prop} {v : Value} {x : List UInt8} (h : RB w S v x) (hk : ∀ k, S k → w'.heap[k]? = w.heap[k]?) : RB w' S v x := by
  obtain ⟨A, c, e, hc, hr⟩ := h
  exact ⟨A, c, e, hc, hr.keep hk⟩
theorem RB.more {w : World} {S S' : Nat → Prop} {v : Value} {x : List UInt8} (h : RB w S v x) (hS : ∀ k, S k → S' k) : RB w S' v x := by
  obtain ⟨A, c, e, hc, hr⟩ := h
  exact ⟨A, c, e, hc, hr.more hS⟩
theorem RB.lt {w : World} {S : Nat → Prop} {v : Value} {x : List UInt8} (h : RB w S v x) : RB w (fun k => S k ∧ k < w.heap.size) v x := by
  obtain ⟨A, c, e, hc, hr⟩ := h
  exact ⟨A, c, e, hc, hr.lt (by omega)⟩
theorem RB.one {w : World} {S : Nat → Prop} {v : Value} {x : List UInt8} (h : RB w S v x) : v.oneCell' = true := by
  obtain ⟨A, c, rfl, _⟩ := h
  rfl
theorem RB.of_own {w : World} {base : Nat} {e : TypeId} {v : Value} {x : List UInt8} (h : w.ownsRow base e 1 v x.length (bv x)) : RB w (fun k => base ≤ k ∧ k < w.heap.size) v x := by
  obtain ⟨A, c, rfl, hc⟩ := own_slice h
  exact ⟨A, c, rfl, hc, Rd.of_own h⟩
theorem RB.nil (w : World) (S : Nat → Prop) : RB w S (.slice none 0 0) [] := ⟨none, 0, rfl, Nat.le_refl _, Rd.none_⟩
/-- The slice '.slice A L.length c' holds the slices L. -/
def Rd2 (w : World) (S : Nat → Prop) (A : Option Addr) (L : List (List UInt8)) : Prop := ∃ vs, Rd w S 1 A L.length vs ∧ All2 (RB w S) vs L
section
variable {w w' : World} {S S' : Nat → Prop} {A : Option Addr} {L : List (List UInt8)}
theorem Rd2.below (h : Rd2 w S A L) (hb : Below w.heap.size w w') : Rd2 w' S A L := by
  obtain ⟨vs, h1, h2⟩ := h
  exact ⟨vs, h1.below hb, h2.imp fun _ _ h => h.below hb⟩
theorem Rd2.more (h : Rd2 w S A L) (hS : ∀ k, S k → S' k) : Rd2 w S' A L := by
  obtain ⟨vs, h1, h2⟩ := h
  exact ⟨vs, h1.more hS, h2.imp fun _ _ h => h.more hS⟩
theorem Rd2.any (h : Rd2 w S A L) : Rd2 w (fun _ => True) A L := h.more fun _ _ => trivial
theorem Rd2.nil (w : World) (S : Nat → Prop) : Rd2 w S none [] := ⟨[], Rd.none_, trivial⟩
theorem Rd2.at_ (h : Rd2 w S A L) {i : Nat} (hi : i < L.length) : ∃ ad A' c', A = some ad ∧ w.cell? (ad.add i) = some (.slice A' L[i].length c') ∧ L[i].length ≤ c' ∧ Rd w S 1 A' L[i].length (bv L[i]) := by
  obtain ⟨vs, h1, h2⟩ := h
  obtain ⟨v, hv, A', c', rfl, hc, hr⟩ := h2.get i L[i] (List.getElem?_eq_getElem hi)
  obtain ⟨ad, u, hA, _, hu, hcell⟩ := h1.at_ (k := i) (by omega)
  rw [hv] at hu
  injection hu with hu
  subst hu
  exact ⟨ad, A', c', hA, hcell, hc, hr⟩
theorem all2_one {vs : List Value} (h : All2 (RB w S) vs L) : ∀ u ∈ vs, u.oneCell' = true := by
  intro u hu
  obtain ⟨i, hi, rfl⟩ := List.mem_iff_getElem.1 hu
  have hl := h.length
  obtain ⟨v, hv, hr⟩ := h.get i (L[i]'(by omega)) (List.getElem?_eq_getElem (by omega))
  rw [List.getElem?_eq_getElem hi] at hv
  injection hv with hv
  rw [hv]
  exact hr.one
theorem Rd2.of_own {base n : Nat} {e : TypeId} {v : Value} {vs : List Value} (h : w.ownsRow base e 1 v n vs) (h2 : All2 (RB w (fun _ => True)) vs L) : ∃ A c, v = .slice A L.length c ∧ L.length ≤ c ∧ Rd2 w (fun _ => True) A L := by
  obtain ⟨A, c, rfl, hc⟩ := own_slice h
  have hl := h2.length
  have h1 := h.1
  obtain rfl : n = L.length := by omega
  exact ⟨A, c, rfl, hc, vs, (Rd.of_own h).more (fun _ _ => trivial), h2⟩
end
/-- Where a call's answer may lie: where its arguments do, or in what it made. -/
def Later (S : Nat → Prop) (w : World) : Nat → Prop := fun k => (S k ∧ k < w.heap.size) ∨ w.heap.size ≤ k
section
variable {w w' : World} {S S' : Nat → Prop} {A : Option Addr} {L : List (List UInt8)}
theorem Rd2.keep (h : Rd2 w S A L) (hk : ∀ k, S k → w'.heap[k]? = w.heap[k]?) : Rd2 w' S A L := by
  obtain ⟨vs, h1, h2⟩ := h
  exact ⟨vs, h1.keep hk, h2.imp fun _ _ h => h.keep hk⟩
theorem Rd2.lt (h : Rd2 w S A L) : Rd2 w (fun k => S k ∧ k < w.heap.size) A L := by
  obtain ⟨vs, h1, h2⟩ := h
  exact ⟨vs, h1.lt (by omega), h2.imp fun _ _ h => h.lt⟩
theorem Rd2.set_ (h : Rd2 w S A L) {p : Addr} (hp : ∀ k, S k → k ≠ p.block) (u : Value) : Rd2 (w.setCell p u) S A L := h.keep fun k hk => Below.heap_setCell w p u k (hp k hk)
theorem Rd2.later (h : Rd2 w S A L) (hb : Below w.heap.size w w') : Rd2 w' (Later S w) A L := (h.lt.below hb).more fun _ hk => .inl hk
theorem Rd.set_ {size n : Nat} {xs : List Value} (h : Rd w S size A n xs) {p : Addr} (hp : ∀ k, S k → k ≠ p.block) (u : Value) : Rd (w.setCell p u) S size A n xs := h.keep fun k hk => Below.heap_setCell w p u k (hp k hk)
theorem Rd2.of_own' {base n : Nat} {e : TypeId} {v : Value} {vs : List Value} (h : w.ownsRow base e 1 v n vs) (h2 : All2 (RB w S) vs L) (hS : ∀ k, base ≤ k → S k) : ∃ A c, v = .slice A L.length c ∧ L.length ≤ c ∧ Rd2 w S A L := by
  obtain ⟨A, c, rfl, hc⟩ := own_slice h
  have hl := h2.length
  have h1 := h.1
  obtain rfl : n = L.length := by omega
  exact ⟨A, c, rfl, hc, vs, (Rd.of_own h).more (fun k hk => hS k hk.1), h2⟩
end
/-! ### bytes as a string -/
def str (l : List UInt8) : ByteArray := ⟨l.toArray⟩
theorem str_toList (l : List UInt8) : (str l).toList = l := by rw [Lib.toList_data]; simp [str]
theorem str_inj {l m : List UInt8} (h : str l = str m) : l = m := by rw [← str_toList l, ← str_toList m, h]
theorem str_data (s : ByteArray) : str s.data.toList = s := by simp [str]
theorem rd_bytes {w : World} {S : Nat → Prop} {A : Option Addr} {l : List UInt8} (h : Rd w S 1 A l.length (bv l)) : l = [] ∨ ∃ ad, A = some ad ∧ ∀ j (hj : j < l.length), w.cell? (ad.add j) = some (.int .u8 (l[j].toNat : Int)) := by
  rcases Nat.eq_zero_or_pos l.length with h0 | h0
  · exact .inl (List.eq_nil_of_length_eq_zero h0)
  · obtain ⟨ad, hA, _, hc⟩ := h.2 h0
    exact .inr ⟨ad, hA, fun j hj => hc j _ (bv_get l j hj)⟩
theorem run_string_of {P : Program} {w : World} {S : Nat → Prop} {A : Option Addr} {l : List UInt8} (h : Rd w S 1 A l.length (bv l)) (src e dst : TypeId) (hs : P.underlying src = some (.slice e)) (he : P.underlying e = some (.int .u8)) (hd : P.underlying dst = some .string) (c : Nat) :
    (convert src dst (.slice A l.length c)).run P w = .ok (.string (str l)) w := by
  rcases rd_bytes h with rfl | ⟨ad, rfl, hc⟩
  · rcases A with _ | ad
    · exact run_convert_bytes_nil w src e hs he 0 c dst hd
    · exact run_convert_bytes_back w src dst e ad c [] hs he hd (fun j hj => by simp at hj)
  · exact run_convert_bytes_back w src dst e ad c l hs he hd hc
theorem take_step {α : Type} {L M : List α} {i : Nat} (h : L.take i = M.take i) (hl : i < L.length) (hm : i < M.length) (he : L[i] = M[i]) : L.take (i + 1) = M.take (i + 1) := by
  rw [List.take_succ_eq_append_getElem hl, List.take_succ_eq_append_getElem hm, h, he]
end Go.Proofs.Ytkpabmhijpnchaa

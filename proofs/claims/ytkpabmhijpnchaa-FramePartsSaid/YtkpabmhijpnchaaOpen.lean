/- How a statement's arguments read: bytes, slices of bytes. Of no program. -/
import Derived.Test.YtkpabmhijpnchaaBase3
import Derived.ProofKit
import Derived.OpenShut
import Derived.ShutString
import Derived.ChangeOld
import Derived.SizedLaws
import Derived.Deep.Slices
import Derived.Lib.SmallJoins
set_option linter.unusedVariables false
set_option linter.unusedSimpArgs false
namespace Go.Proofs.Ytkpabmhijpnchaa
open Go.RowKit Go.ChangeShapes Go.WideShapes Go.Deep
section
variable {H : Type} {enc : TypeId × Value → H} {P : Program} {w : World} {base : Nat} {spare : Nat → Bool} {held : Bool} {t e e2 : TypeId} {fuel : Nat} {cs : List Value} {x : DataW H × List MemPlace}
/-- A number of a byte's kind as a byte. -/
def byteOf (n : Int) : UInt8 := UInt8.ofNat n.toNat
theorem byteOf_back {n : Int} (h : (Lit.int .u8 n).wf = true) : ((byteOf n).toNat : Int) = n := by
  obtain ⟨h0, h1⟩ := bounds_u8 h
  unfold byteOf
  rw [UInt8.toNat_ofNat_of_lt' (by show n.toNat < 256; omega)]
  omega
theorem open_bytes (ht : P.underlying t = some (.slice e)) (he : P.underlying e = some (.int .u8)) (hc : P.cellsOf e = 1) (h : DataW.trod enc P w base spare held fuel t cs = some x) :
    ∃ A c l, cs = [.slice A (l : List UInt8).length c] ∧ l.length ≤ c ∧ c ≤ maxLen ∧ Rd w Anywhere 1 A l.length (bv l) := by
  rcases open_ints ht he hc h with ⟨rfl, _⟩ | ⟨a, len, cap, zs, rfl, _, hl, hm, hz, _, hcell, hwf⟩
  · exact ⟨none, 0, [], rfl, Nat.le_refl _, by simp [maxLen], Rd.none_⟩
  · have hlz : len ≤ zs.length := by rw [hz]; split <;> omega
    have hlen : ((zs.take len).map byteOf).length = len := by simp; omega
    refine ⟨some a, cap, (zs.take len).map byteOf, by rw [hlen], by rw [hlen]; exact hl, hm, ?_⟩
    rw [hlen]
    refine ⟨by simp [bv]; omega, fun _ => ⟨a, rfl, trivial, fun j u hu => ?_⟩⟩
    have hj : j < len := by
      have := (List.getElem?_eq_some_iff.1 hu).1
      simp [bv] at this
      omega
    rw [hcell j (by omega)]
    rw [bv_get _ j (by omega)] at hu
    injection hu with hu
    rw [← hu, List.getElem_map, List.getElem_take, byteOf_back (hwf _ (List.getElem_mem (by omega))), List.getD_eq_getElem?_getD, List.getElem?_eq_getElem (by omega)]
    rfl
theorem open_rows (ht : P.underlying t = some (.slice e)) (hc : P.cellsOf e = 1) (he : P.underlying e = some (.slice e2)) (he2 : P.underlying e2 = some (.int .u8)) (hc2 : P.cellsOf e2 = 1) (h : DataW.trod enc P w base spare held fuel t cs = some x) :
    ∃ A c L, cs = [.slice A (L : List (List UInt8)).length c] ∧ L.length ≤ c ∧ c ≤ maxLen ∧ Rd2 w Anywhere A L := by
  rcases open_slice ht h with ⟨rfl, _⟩ | ⟨a, len, cap, m, n, D, Pl, rfl, hb, hl, hm, hmm, _, hi⟩
  · exact ⟨none, 0, [], rfl, Nat.le_refl _, by simp [maxLen], Rd2.nil _ _⟩
  · have hlm : len ≤ m := by rw [hmm]; split <;> omega
    rw [hc] at hi
    -- the first k elements
    have build : ∀ k, k ≤ len → ∃ (vs : List Value) (L : List (List UInt8)), vs.length = k ∧ L.length = k ∧ All2 (RB w Anywhere) vs L ∧ ∀ j u, vs[j]? = some u → w.cell? (a.add j) = some u := by
      intro k
      induction k with
      | zero => exact fun _ => ⟨[], [], rfl, rfl, trivial, fun j u hu => by simp at hu⟩
      | succ k ih =>
        intro hk
        obtain ⟨vs, L, h1, h2, h3, h4⟩ := ih (by omega)
        obtain ⟨cs', hcs', htr⟩ := hi k (by omega)
        obtain ⟨A, c, l, rfl, hlc, _, hrd⟩ := open_bytes he he2 hc2 htr
        obtain ⟨_, _, hat⟩ := World.cells?_some hcs'
        have h0 := hat (i := 0) (by omega)
        rw [Nat.mul_one] at h0
        refine ⟨vs ++ [.slice A l.length c], L ++ [l], by simp [h1], by simp [h2], h3.append ⟨⟨A, c, rfl, hlc, hrd⟩, trivial⟩, fun j u hu => ?_⟩
        rw [List.getElem?_append] at hu
        split at hu
        · exact h4 j u hu
        · have hj : j = k := by
            have := (List.getElem?_eq_some_iff.1 hu).1
            simp at this
            omega
          subst hj
          rw [h1] at hu
          simp at hu
          subst hu
          have e0 : (a.add j).add 0 = a.add j := by rw [add_of_add]; rfl
          rw [e0] at h0
          simpa using h0
    obtain ⟨vs, L, h1, h2, h3, h4⟩ := build len (Nat.le_refl _)
    subst h2
    exact ⟨some a, cap, L, rfl, hl, hm, vs, ⟨by omega, fun _ => ⟨a, rfl, trivial, h4⟩⟩, h3⟩
end
end Go.Proofs.Ytkpabmhijpnchaa

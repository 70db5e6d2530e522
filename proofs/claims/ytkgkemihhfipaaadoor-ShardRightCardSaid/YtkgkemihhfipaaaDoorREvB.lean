/- Packed by pack.py (this session's own program): texts of the kit's printer and of my own, what is not used struck. -/
import Derived.Test.YtkgkemihhfipaaaDoorRHKx5
import Derived.Test.YtkgkemihhfipaaaDoorRHKx11
import Derived.Test.YtkgkemihhfipaaaDoorREvA
set_option linter.unusedVariables false
set_option linter.unusedSimpArgs false
set_option linter.unusedSectionVars false
namespace Go.Proofs.YtkgkemihhfipaaaDoor.HK
open Go.RowKit Go.Proofs.YtkgkemihhfipaaaDoorW.PrintWords Go.Proofs.YtkgkemihhfipaaaDoorW.PrintLast Go.Proofs.YtkgkemihhfipaaaDoorW.PrintMore
variable [paydeskref07_Order.Has]
def defO (n : Int) : Option (Int × Int × Int × Bool) := if (2 : Int) = n then some (2, 3, 19, true) else if (3 : Int) = n then some (3, 1, 6, true) else if (4 : Int) = n then some (4, 1, 12, true) else if (7 : Int) = n then some (7, 1, 10, true) else if (11 : Int) = n then some (11, 1, 6, true) else if (12 : Int) = n then some (12, 1, 6, true) else if (37 : Int) = n then some (37, 2, 12, true) else if (38 : Int) = n then some (38, 2, 6, true) else if (39 : Int) = n then some (39, 2, 2, true) else if (41 : Int) = n then some (41, 2, 8, true) else if (44 : Int) = n then some (44, 4, 25, true) else if (48 : Int) = n then some (48, 5, 999, true) else if (49 : Int) = n then some (49, 1, 3, true) else if (90 : Int) = n then some (90, 1, 42, true) else if (120 : Int) = n then some (120, 5, 999, true) else some (0, 0, 0, false)
def fL : List Int := ([2, 3, 19, 3, 1, 6, 4, 1, 12, 7, 1, 10, 11, 1, 6, 12, 1, 6, 37, 2, 12, 38, 2, 6, 39, 2, 2, 41, 2, 8, 44, 4, 25, 48, 5, 999, 49, 1, 3, 90, 1, 42, 120, 5, 999] : List Int)
def fS : List S101 := ([⟨2, 3, 19⟩, ⟨3, 1, 6⟩, ⟨4, 1, 12⟩, ⟨7, 1, 10⟩, ⟨11, 1, 6⟩, ⟨12, 1, 6⟩, ⟨37, 2, 12⟩, ⟨38, 2, 6⟩, ⟨39, 2, 2⟩, ⟨41, 2, 8⟩, ⟨44, 4, 25⟩, ⟨48, 5, 999⟩, ⟨49, 1, 3⟩, ⟨90, 1, 42⟩, ⟨120, 5, 999⟩] : List S101)
theorem d3_0 (m : Nat) (n : Int) : paydeskref03_Def.l0 (m + 16) n fL 0 = if (2 : Int) = n then some (2, 3, 19, true) else paydeskref03_Def.l0 (m + 15) n fL 3 := by
  rw [paydeskref03_Def.l0, if_pos (by decide), if_pos (by decide)]
  by_cases h : (2 : Int) = n
  · rw [if_pos (show rd fL 0 = n from h), if_pos h, if_pos (by decide +kernel), if_pos (by decide +kernel), if_pos (by decide +kernel), if_pos (by decide +kernel)]
    have h1 : rd fL 0 = n := h
    rw [h1, ← h, show rd fL (wrap64 (0 + 1)) = 3 by decide +kernel, show rd fL (wrap64 (0 + 2)) = 19 by decide +kernel]
  · rw [if_neg (show ¬ rd fL 0 = n from h), if_neg h, show wrap64 (0 + 3) = 3 by decide +kernel]
theorem d3_1 (m : Nat) (n : Int) : paydeskref03_Def.l0 (m + 15) n fL 3 = if (3 : Int) = n then some (3, 1, 6, true) else paydeskref03_Def.l0 (m + 14) n fL 6 := by
  rw [paydeskref03_Def.l0, if_pos (by decide), if_pos (by decide)]
  by_cases h : (3 : Int) = n
  · rw [if_pos (show rd fL 3 = n from h), if_pos h, if_pos (by decide +kernel), if_pos (by decide +kernel), if_pos (by decide +kernel), if_pos (by decide +kernel)]
    have h1 : rd fL 3 = n := h
    rw [h1, ← h, show rd fL (wrap64 (3 + 1)) = 1 by decide +kernel, show rd fL (wrap64 (3 + 2)) = 6 by decide +kernel]
  · rw [if_neg (show ¬ rd fL 3 = n from h), if_neg h, show wrap64 (3 + 3) = 6 by decide +kernel]
theorem d3_2 (m : Nat) (n : Int) : paydeskref03_Def.l0 (m + 14) n fL 6 = if (4 : Int) = n then some (4, 1, 12, true) else paydeskref03_Def.l0 (m + 13) n fL 9 := by
  rw [paydeskref03_Def.l0, if_pos (by decide), if_pos (by decide)]
  by_cases h : (4 : Int) = n
  · rw [if_pos (show rd fL 6 = n from h), if_pos h, if_pos (by decide +kernel), if_pos (by decide +kernel), if_pos (by decide +kernel), if_pos (by decide +kernel)]
    have h1 : rd fL 6 = n := h
    rw [h1, ← h, show rd fL (wrap64 (6 + 1)) = 1 by decide +kernel, show rd fL (wrap64 (6 + 2)) = 12 by decide +kernel]
  · rw [if_neg (show ¬ rd fL 6 = n from h), if_neg h, show wrap64 (6 + 3) = 9 by decide +kernel]
theorem d3_3 (m : Nat) (n : Int) : paydeskref03_Def.l0 (m + 13) n fL 9 = if (7 : Int) = n then some (7, 1, 10, true) else paydeskref03_Def.l0 (m + 12) n fL 12 := by
  rw [paydeskref03_Def.l0, if_pos (by decide), if_pos (by decide)]
  by_cases h : (7 : Int) = n
  · rw [if_pos (show rd fL 9 = n from h), if_pos h, if_pos (by decide +kernel), if_pos (by decide +kernel), if_pos (by decide +kernel), if_pos (by decide +kernel)]
    have h1 : rd fL 9 = n := h
    rw [h1, ← h, show rd fL (wrap64 (9 + 1)) = 1 by decide +kernel, show rd fL (wrap64 (9 + 2)) = 10 by decide +kernel]
  · rw [if_neg (show ¬ rd fL 9 = n from h), if_neg h, show wrap64 (9 + 3) = 12 by decide +kernel]
theorem d3_4 (m : Nat) (n : Int) : paydeskref03_Def.l0 (m + 12) n fL 12 = if (11 : Int) = n then some (11, 1, 6, true) else paydeskref03_Def.l0 (m + 11) n fL 15 := by
  rw [paydeskref03_Def.l0, if_pos (by decide), if_pos (by decide)]
  by_cases h : (11 : Int) = n
  · rw [if_pos (show rd fL 12 = n from h), if_pos h, if_pos (by decide +kernel), if_pos (by decide +kernel), if_pos (by decide +kernel), if_pos (by decide +kernel)]
    have h1 : rd fL 12 = n := h
    rw [h1, ← h, show rd fL (wrap64 (12 + 1)) = 1 by decide +kernel, show rd fL (wrap64 (12 + 2)) = 6 by decide +kernel]
  · rw [if_neg (show ¬ rd fL 12 = n from h), if_neg h, show wrap64 (12 + 3) = 15 by decide +kernel]
theorem d3_5 (m : Nat) (n : Int) : paydeskref03_Def.l0 (m + 11) n fL 15 = if (12 : Int) = n then some (12, 1, 6, true) else paydeskref03_Def.l0 (m + 10) n fL 18 := by
  rw [paydeskref03_Def.l0, if_pos (by decide), if_pos (by decide)]
  by_cases h : (12 : Int) = n
  · rw [if_pos (show rd fL 15 = n from h), if_pos h, if_pos (by decide +kernel), if_pos (by decide +kernel), if_pos (by decide +kernel), if_pos (by decide +kernel)]
    have h1 : rd fL 15 = n := h
    rw [h1, ← h, show rd fL (wrap64 (15 + 1)) = 1 by decide +kernel, show rd fL (wrap64 (15 + 2)) = 6 by decide +kernel]
  · rw [if_neg (show ¬ rd fL 15 = n from h), if_neg h, show wrap64 (15 + 3) = 18 by decide +kernel]
theorem d3_6 (m : Nat) (n : Int) : paydeskref03_Def.l0 (m + 10) n fL 18 = if (37 : Int) = n then some (37, 2, 12, true) else paydeskref03_Def.l0 (m + 9) n fL 21 := by
  rw [paydeskref03_Def.l0, if_pos (by decide), if_pos (by decide)]
  by_cases h : (37 : Int) = n
  · rw [if_pos (show rd fL 18 = n from h), if_pos h, if_pos (by decide +kernel), if_pos (by decide +kernel), if_pos (by decide +kernel), if_pos (by decide +kernel)]
    have h1 : rd fL 18 = n := h
    rw [h1, ← h, show rd fL (wrap64 (18 + 1)) = 2 by decide +kernel, show rd fL (wrap64 (18 + 2)) = 12 by decide +kernel]
  · rw [if_neg (show ¬ rd fL 18 = n from h), if_neg h, show wrap64 (18 + 3) = 21 by decide +kernel]
theorem d3_7 (m : Nat) (n : Int) : paydeskref03_Def.l0 (m + 9) n fL 21 = if (38 : Int) = n then some (38, 2, 6, true) else paydeskref03_Def.l0 (m + 8) n fL 24 := by
  rw [paydeskref03_Def.l0, if_pos (by decide), if_pos (by decide)]
  by_cases h : (38 : Int) = n
  · rw [if_pos (show rd fL 21 = n from h), if_pos h, if_pos (by decide +kernel), if_pos (by decide +kernel), if_pos (by decide +kernel), if_pos (by decide +kernel)]
    have h1 : rd fL 21 = n := h
    rw [h1, ← h, show rd fL (wrap64 (21 + 1)) = 2 by decide +kernel, show rd fL (wrap64 (21 + 2)) = 6 by decide +kernel]
  · rw [if_neg (show ¬ rd fL 21 = n from h), if_neg h, show wrap64 (21 + 3) = 24 by decide +kernel]
theorem d3_8 (m : Nat) (n : Int) : paydeskref03_Def.l0 (m + 8) n fL 24 = if (39 : Int) = n then some (39, 2, 2, true) else paydeskref03_Def.l0 (m + 7) n fL 27 := by
  rw [paydeskref03_Def.l0, if_pos (by decide), if_pos (by decide)]
  by_cases h : (39 : Int) = n
  · rw [if_pos (show rd fL 24 = n from h), if_pos h, if_pos (by decide +kernel), if_pos (by decide +kernel), if_pos (by decide +kernel), if_pos (by decide +kernel)]
    have h1 : rd fL 24 = n := h
    rw [h1, ← h, show rd fL (wrap64 (24 + 1)) = 2 by decide +kernel, show rd fL (wrap64 (24 + 2)) = 2 by decide +kernel]
  · rw [if_neg (show ¬ rd fL 24 = n from h), if_neg h, show wrap64 (24 + 3) = 27 by decide +kernel]
theorem d3_9 (m : Nat) (n : Int) : paydeskref03_Def.l0 (m + 7) n fL 27 = if (41 : Int) = n then some (41, 2, 8, true) else paydeskref03_Def.l0 (m + 6) n fL 30 := by
  rw [paydeskref03_Def.l0, if_pos (by decide), if_pos (by decide)]
  by_cases h : (41 : Int) = n
  · rw [if_pos (show rd fL 27 = n from h), if_pos h, if_pos (by decide +kernel), if_pos (by decide +kernel), if_pos (by decide +kernel), if_pos (by decide +kernel)]
    have h1 : rd fL 27 = n := h
    rw [h1, ← h, show rd fL (wrap64 (27 + 1)) = 2 by decide +kernel, show rd fL (wrap64 (27 + 2)) = 8 by decide +kernel]
  · rw [if_neg (show ¬ rd fL 27 = n from h), if_neg h, show wrap64 (27 + 3) = 30 by decide +kernel]
theorem d3_10 (m : Nat) (n : Int) : paydeskref03_Def.l0 (m + 6) n fL 30 = if (44 : Int) = n then some (44, 4, 25, true) else paydeskref03_Def.l0 (m + 5) n fL 33 := by
  rw [paydeskref03_Def.l0, if_pos (by decide), if_pos (by decide)]
  by_cases h : (44 : Int) = n
  · rw [if_pos (show rd fL 30 = n from h), if_pos h, if_pos (by decide +kernel), if_pos (by decide +kernel), if_pos (by decide +kernel), if_pos (by decide +kernel)]
    have h1 : rd fL 30 = n := h
    rw [h1, ← h, show rd fL (wrap64 (30 + 1)) = 4 by decide +kernel, show rd fL (wrap64 (30 + 2)) = 25 by decide +kernel]
  · rw [if_neg (show ¬ rd fL 30 = n from h), if_neg h, show wrap64 (30 + 3) = 33 by decide +kernel]
theorem d3_11 (m : Nat) (n : Int) : paydeskref03_Def.l0 (m + 5) n fL 33 = if (48 : Int) = n then some (48, 5, 999, true) else paydeskref03_Def.l0 (m + 4) n fL 36 := by
  rw [paydeskref03_Def.l0, if_pos (by decide), if_pos (by decide)]
  by_cases h : (48 : Int) = n
  · rw [if_pos (show rd fL 33 = n from h), if_pos h, if_pos (by decide +kernel), if_pos (by decide +kernel), if_pos (by decide +kernel), if_pos (by decide +kernel)]
    have h1 : rd fL 33 = n := h
    rw [h1, ← h, show rd fL (wrap64 (33 + 1)) = 5 by decide +kernel, show rd fL (wrap64 (33 + 2)) = 999 by decide +kernel]
  · rw [if_neg (show ¬ rd fL 33 = n from h), if_neg h, show wrap64 (33 + 3) = 36 by decide +kernel]
theorem d3_12 (m : Nat) (n : Int) : paydeskref03_Def.l0 (m + 4) n fL 36 = if (49 : Int) = n then some (49, 1, 3, true) else paydeskref03_Def.l0 (m + 3) n fL 39 := by
  rw [paydeskref03_Def.l0, if_pos (by decide), if_pos (by decide)]
  by_cases h : (49 : Int) = n
  · rw [if_pos (show rd fL 36 = n from h), if_pos h, if_pos (by decide +kernel), if_pos (by decide +kernel), if_pos (by decide +kernel), if_pos (by decide +kernel)]
    have h1 : rd fL 36 = n := h
    rw [h1, ← h, show rd fL (wrap64 (36 + 1)) = 1 by decide +kernel, show rd fL (wrap64 (36 + 2)) = 3 by decide +kernel]
  · rw [if_neg (show ¬ rd fL 36 = n from h), if_neg h, show wrap64 (36 + 3) = 39 by decide +kernel]
theorem d3_13 (m : Nat) (n : Int) : paydeskref03_Def.l0 (m + 3) n fL 39 = if (90 : Int) = n then some (90, 1, 42, true) else paydeskref03_Def.l0 (m + 2) n fL 42 := by
  rw [paydeskref03_Def.l0, if_pos (by decide), if_pos (by decide)]
  by_cases h : (90 : Int) = n
  · rw [if_pos (show rd fL 39 = n from h), if_pos h, if_pos (by decide +kernel), if_pos (by decide +kernel), if_pos (by decide +kernel), if_pos (by decide +kernel)]
    have h1 : rd fL 39 = n := h
    rw [h1, ← h, show rd fL (wrap64 (39 + 1)) = 1 by decide +kernel, show rd fL (wrap64 (39 + 2)) = 42 by decide +kernel]
  · rw [if_neg (show ¬ rd fL 39 = n from h), if_neg h, show wrap64 (39 + 3) = 42 by decide +kernel]
theorem d3_14 (m : Nat) (n : Int) : paydeskref03_Def.l0 (m + 2) n fL 42 = if (120 : Int) = n then some (120, 5, 999, true) else paydeskref03_Def.l0 (m + 1) n fL 45 := by
  rw [paydeskref03_Def.l0, if_pos (by decide), if_pos (by decide)]
  by_cases h : (120 : Int) = n
  · rw [if_pos (show rd fL 42 = n from h), if_pos h, if_pos (by decide +kernel), if_pos (by decide +kernel), if_pos (by decide +kernel), if_pos (by decide +kernel)]
    have h1 : rd fL 42 = n := h
    rw [h1, ← h, show rd fL (wrap64 (42 + 1)) = 5 by decide +kernel, show rd fL (wrap64 (42 + 2)) = 999 by decide +kernel]
  · rw [if_neg (show ¬ rd fL 42 = n from h), if_neg h, show wrap64 (42 + 3) = 45 by decide +kernel]
theorem d3_15 (m : Nat) (n : Int) : paydeskref03_Def.l0 (m + 1) n fL 45 = some (0, 0, 0, false) := by
  rw [paydeskref03_Def.l0, if_neg (by decide)]
theorem def03_ev (n : Int) {k : Nat} (hk : 16 ≤ k) : paydeskref03_Def.f k n = defO n := by
  obtain ⟨m, rfl⟩ : ∃ m, k = m + 16 := ⟨k - 16, by omega⟩
  show paydeskref03_Def.l0 (m + 16) n fL 0 = defO n
  rw [d3_0, d3_1, d3_2, d3_3, d3_4, d3_5, d3_6, d3_7, d3_8, d3_9, d3_10, d3_11, d3_12, d3_13, d3_14, d3_15]
  rfl
theorem d0_0 (m : Nat) (n : Int) : field_Def.l0 (m + 16) n fS 15 0 = if (2 : Int) = n then some (2, 3, 19, true) else field_Def.l0 (m + 15) n fS 15 1 := by
  rw [field_Def.l0, if_pos (by decide), if_pos (by decide), if_pos (by decide)]
  by_cases h : (2 : Int) = n
  · rw [if_pos (show (rd_T101 fS 0).f0 = n from h), if_pos h]; rfl
  · rw [if_neg (show ¬ (rd_T101 fS 0).f0 = n from h), if_neg h, show wrap64 (0 + 1) = 1 by decide +kernel]
theorem d0_1 (m : Nat) (n : Int) : field_Def.l0 (m + 15) n fS 15 1 = if (3 : Int) = n then some (3, 1, 6, true) else field_Def.l0 (m + 14) n fS 15 2 := by
  rw [field_Def.l0, if_pos (by decide), if_pos (by decide), if_pos (by decide)]
  by_cases h : (3 : Int) = n
  · rw [if_pos (show (rd_T101 fS 1).f0 = n from h), if_pos h]; rfl
  · rw [if_neg (show ¬ (rd_T101 fS 1).f0 = n from h), if_neg h, show wrap64 (1 + 1) = 2 by decide +kernel]
theorem d0_2 (m : Nat) (n : Int) : field_Def.l0 (m + 14) n fS 15 2 = if (4 : Int) = n then some (4, 1, 12, true) else field_Def.l0 (m + 13) n fS 15 3 := by
  rw [field_Def.l0, if_pos (by decide), if_pos (by decide), if_pos (by decide)]
  by_cases h : (4 : Int) = n
  · rw [if_pos (show (rd_T101 fS 2).f0 = n from h), if_pos h]; rfl
  · rw [if_neg (show ¬ (rd_T101 fS 2).f0 = n from h), if_neg h, show wrap64 (2 + 1) = 3 by decide +kernel]
theorem d0_3 (m : Nat) (n : Int) : field_Def.l0 (m + 13) n fS 15 3 = if (7 : Int) = n then some (7, 1, 10, true) else field_Def.l0 (m + 12) n fS 15 4 := by
  rw [field_Def.l0, if_pos (by decide), if_pos (by decide), if_pos (by decide)]
  by_cases h : (7 : Int) = n
  · rw [if_pos (show (rd_T101 fS 3).f0 = n from h), if_pos h]; rfl
  · rw [if_neg (show ¬ (rd_T101 fS 3).f0 = n from h), if_neg h, show wrap64 (3 + 1) = 4 by decide +kernel]
theorem d0_4 (m : Nat) (n : Int) : field_Def.l0 (m + 12) n fS 15 4 = if (11 : Int) = n then some (11, 1, 6, true) else field_Def.l0 (m + 11) n fS 15 5 := by
  rw [field_Def.l0, if_pos (by decide), if_pos (by decide), if_pos (by decide)]
  by_cases h : (11 : Int) = n
  · rw [if_pos (show (rd_T101 fS 4).f0 = n from h), if_pos h]; rfl
  · rw [if_neg (show ¬ (rd_T101 fS 4).f0 = n from h), if_neg h, show wrap64 (4 + 1) = 5 by decide +kernel]
theorem d0_5 (m : Nat) (n : Int) : field_Def.l0 (m + 11) n fS 15 5 = if (12 : Int) = n then some (12, 1, 6, true) else field_Def.l0 (m + 10) n fS 15 6 := by
  rw [field_Def.l0, if_pos (by decide), if_pos (by decide), if_pos (by decide)]
  by_cases h : (12 : Int) = n
  · rw [if_pos (show (rd_T101 fS 5).f0 = n from h), if_pos h]; rfl
  · rw [if_neg (show ¬ (rd_T101 fS 5).f0 = n from h), if_neg h, show wrap64 (5 + 1) = 6 by decide +kernel]
theorem d0_6 (m : Nat) (n : Int) : field_Def.l0 (m + 10) n fS 15 6 = if (37 : Int) = n then some (37, 2, 12, true) else field_Def.l0 (m + 9) n fS 15 7 := by
  rw [field_Def.l0, if_pos (by decide), if_pos (by decide), if_pos (by decide)]
  by_cases h : (37 : Int) = n
  · rw [if_pos (show (rd_T101 fS 6).f0 = n from h), if_pos h]; rfl
  · rw [if_neg (show ¬ (rd_T101 fS 6).f0 = n from h), if_neg h, show wrap64 (6 + 1) = 7 by decide +kernel]
theorem d0_7 (m : Nat) (n : Int) : field_Def.l0 (m + 9) n fS 15 7 = if (38 : Int) = n then some (38, 2, 6, true) else field_Def.l0 (m + 8) n fS 15 8 := by
  rw [field_Def.l0, if_pos (by decide), if_pos (by decide), if_pos (by decide)]
  by_cases h : (38 : Int) = n
  · rw [if_pos (show (rd_T101 fS 7).f0 = n from h), if_pos h]; rfl
  · rw [if_neg (show ¬ (rd_T101 fS 7).f0 = n from h), if_neg h, show wrap64 (7 + 1) = 8 by decide +kernel]
theorem d0_8 (m : Nat) (n : Int) : field_Def.l0 (m + 8) n fS 15 8 = if (39 : Int) = n then some (39, 2, 2, true) else field_Def.l0 (m + 7) n fS 15 9 := by
  rw [field_Def.l0, if_pos (by decide), if_pos (by decide), if_pos (by decide)]
  by_cases h : (39 : Int) = n
  · rw [if_pos (show (rd_T101 fS 8).f0 = n from h), if_pos h]; rfl
  · rw [if_neg (show ¬ (rd_T101 fS 8).f0 = n from h), if_neg h, show wrap64 (8 + 1) = 9 by decide +kernel]
theorem d0_9 (m : Nat) (n : Int) : field_Def.l0 (m + 7) n fS 15 9 = if (41 : Int) = n then some (41, 2, 8, true) else field_Def.l0 (m + 6) n fS 15 10 := by
  rw [field_Def.l0, if_pos (by decide), if_pos (by decide), if_pos (by decide)]
  by_cases h : (41 : Int) = n
  · rw [if_pos (show (rd_T101 fS 9).f0 = n from h), if_pos h]; rfl
  · rw [if_neg (show ¬ (rd_T101 fS 9).f0 = n from h), if_neg h, show wrap64 (9 + 1) = 10 by decide +kernel]
theorem d0_10 (m : Nat) (n : Int) : field_Def.l0 (m + 6) n fS 15 10 = if (44 : Int) = n then some (44, 4, 25, true) else field_Def.l0 (m + 5) n fS 15 11 := by
  rw [field_Def.l0, if_pos (by decide), if_pos (by decide), if_pos (by decide)]
  by_cases h : (44 : Int) = n
  · rw [if_pos (show (rd_T101 fS 10).f0 = n from h), if_pos h]; rfl
  · rw [if_neg (show ¬ (rd_T101 fS 10).f0 = n from h), if_neg h, show wrap64 (10 + 1) = 11 by decide +kernel]
theorem d0_11 (m : Nat) (n : Int) : field_Def.l0 (m + 5) n fS 15 11 = if (48 : Int) = n then some (48, 5, 999, true) else field_Def.l0 (m + 4) n fS 15 12 := by
  rw [field_Def.l0, if_pos (by decide), if_pos (by decide), if_pos (by decide)]
  by_cases h : (48 : Int) = n
  · rw [if_pos (show (rd_T101 fS 11).f0 = n from h), if_pos h]; rfl
  · rw [if_neg (show ¬ (rd_T101 fS 11).f0 = n from h), if_neg h, show wrap64 (11 + 1) = 12 by decide +kernel]
theorem d0_12 (m : Nat) (n : Int) : field_Def.l0 (m + 4) n fS 15 12 = if (49 : Int) = n then some (49, 1, 3, true) else field_Def.l0 (m + 3) n fS 15 13 := by
  rw [field_Def.l0, if_pos (by decide), if_pos (by decide), if_pos (by decide)]
  by_cases h : (49 : Int) = n
  · rw [if_pos (show (rd_T101 fS 12).f0 = n from h), if_pos h]; rfl
  · rw [if_neg (show ¬ (rd_T101 fS 12).f0 = n from h), if_neg h, show wrap64 (12 + 1) = 13 by decide +kernel]
theorem d0_13 (m : Nat) (n : Int) : field_Def.l0 (m + 3) n fS 15 13 = if (90 : Int) = n then some (90, 1, 42, true) else field_Def.l0 (m + 2) n fS 15 14 := by
  rw [field_Def.l0, if_pos (by decide), if_pos (by decide), if_pos (by decide)]
  by_cases h : (90 : Int) = n
  · rw [if_pos (show (rd_T101 fS 13).f0 = n from h), if_pos h]; rfl
  · rw [if_neg (show ¬ (rd_T101 fS 13).f0 = n from h), if_neg h, show wrap64 (13 + 1) = 14 by decide +kernel]
theorem d0_14 (m : Nat) (n : Int) : field_Def.l0 (m + 2) n fS 15 14 = if (120 : Int) = n then some (120, 5, 999, true) else field_Def.l0 (m + 1) n fS 15 15 := by
  rw [field_Def.l0, if_pos (by decide), if_pos (by decide), if_pos (by decide)]
  by_cases h : (120 : Int) = n
  · rw [if_pos (show (rd_T101 fS 14).f0 = n from h), if_pos h]; rfl
  · rw [if_neg (show ¬ (rd_T101 fS 14).f0 = n from h), if_neg h, show wrap64 (14 + 1) = 15 by decide +kernel]
theorem d0_15 (m : Nat) (n : Int) : field_Def.l0 (m + 1) n fS 15 15 = some (0, 0, 0, false) := by
  rw [field_Def.l0, if_neg (by decide)]
theorem def_ev (n : Int) {k : Nat} (hk : 16 ≤ k) : field_Def.f k n = defO n := by
  obtain ⟨m, rfl⟩ : ∃ m, k = m + 16 := ⟨k - 16, by omega⟩
  show field_Def.l0 (m + 16) n fS 15 0 = defO n
  rw [d0_0, d0_1, d0_2, d0_3, d0_4, d0_5, d0_6, d0_7, d0_8, d0_9, d0_10, d0_11, d0_12, d0_13, d0_14, d0_15]
  rfl
theorem dite_some_ {α : Type} {c : Prop} [Decidable c] {a b : Option α} {Q : α → Prop} (ha : ∃ d, a = some d ∧ Q d) (hb : ∃ d, b = some d ∧ Q d) : ∃ d, (if c then a else b) = some d ∧ Q d := by
  by_cases h : c
  · rw [if_pos h]; exact ha
  · rw [if_neg h]; exact hb
theorem defO_some (n : Int) : ∃ d, defO n = some d ∧ ((d.2.2.2 = true ∧ 1 ≤ d.2.1 ∧ d.2.1 ≤ 5 ∧ 1 ≤ d.2.2.1 ∧ d.2.2.1 ≤ 999) ∨ d.2.2.2 = false) := by
  unfold defO
  repeat (refine dite_some_ ⟨_, rfl, .inl ⟨rfl, by decide, by decide, by decide, by decide⟩⟩ ?_)
  exact ⟨_, rfl, .inr rfl⟩
def prn (c : UInt8) : Bool := decide (32 ≤ c.toNat) && decide (c.toNat ≤ 126)
def digk (kind : Int) : Bool := decide (kind = 1) || decide (kind = 3)
def signB (kind : Int) (s : ByteArray) : Bool := s.data.toList.all (if digk kind then dig else prn)
theorem sign_l0 (kind : Int) (s : ByteArray) (hs : s.size ≤ 400) : ∀ (d i k : Nat), i + d = s.size → 2 * d + 1 ≤ k → paydeskref03_Signs.l0 k kind s (i : Int) = some ((s.data.toList.drop i).all (if digk kind then dig else prn)) := by
  intro d
  induction d with
  | zero =>
    intro i k hi hk
    obtain ⟨k, rfl⟩ : ∃ m, k = m + 1 := ⟨k - 1, by omega⟩
    simp only [paydeskref03_Signs.l0]
    rw [if_neg (by omega), List.drop_eq_nil_of_le (by rw [Array.length_toList]; show s.size ≤ i; omega)]
    rfl
  | succ d ih =>
    intro i k hi hk
    obtain ⟨k, rfl⟩ : ∃ m, k = m + 1 + 1 := ⟨k - 2, by omega⟩
    have hlt : i < s.size := by omega
    have hstep : paydeskref03_Signs.l0 (k + 1 + 1) kind s (i : Int) = paydeskref03_Signs.j1 (k + 1) kind s (i : Int) 32 126 (digk kind) := by
      simp only [paydeskref03_Signs.l0]
      rw [if_pos (by omega)]
      unfold digk
      by_cases h1 : kind = 1
      · rw [if_pos h1, decide_eq_true h1]; rfl
      · rw [if_neg h1, decide_eq_false h1, Bool.false_or]; rfl
    rw [hstep, drop_at s i hlt, List.all_cons]
    have ih' := ih (i + 1) k (by omega) (by omega)
    obtain ⟨c, hc⟩ : ∃ c, s.data.toList[i]'(by rw [Array.length_toList]; exact hlt) = c := ⟨_, rfl⟩
    have hb : bt s (i : Int) = (c.toNat : Int) := by rw [bt_nat s i hlt, hc]
    have ew : wrap64 ((i : Int) + 1) = ((i + 1 : Nat) : Int) := by rw [wrap_in (by omega) (by omega)]; omega
    rw [hc]
    simp only [paydeskref03_Signs.j1]
    rw [if_pos (show (0 : Int) ≤ (i : Int) by omega), if_pos (show (i : Int) < (s.size : Int) by omega), hb, ew, ih']
    cases hd : digk kind with
    | true =>
      rw [if_pos rfl]
      have hr : (if true = true then dig else prn) = dig := rfl
      rw [hr]
      by_cases h1 : (c.toNat : Int) < 48
      · have : dig c = false := by unfold dig; rw [decide_eq_false (by omega)]; rfl
        rw [if_pos h1, this]; rfl
      · rw [if_neg h1]
        by_cases h2 : (c.toNat : Int) > 57
        · have : dig c = false := by unfold dig; rw [decide_eq_false (show ¬ c.toNat ≤ 57 by omega), Bool.and_false]
          rw [if_pos h2, this]; rfl
        · have : dig c = true := by unfold dig; rw [decide_eq_true (show 48 ≤ c.toNat by omega), decide_eq_true (show c.toNat ≤ 57 by omega)]; rfl
          rw [if_neg h2, this]; rfl
    | false =>
      rw [if_neg (by simp), if_pos (show (0 : Int) ≤ (i : Int) by omega), if_pos (show (i : Int) < (s.size : Int) by omega)]
      have hr : (if false = true then dig else prn) = prn := rfl
      rw [hr]
      by_cases h1 : (c.toNat : Int) < 32
      · have : prn c = false := by unfold prn; rw [decide_eq_false (by omega)]; rfl
        rw [if_pos h1, this]; rfl
      · rw [if_neg h1]
        by_cases h2 : (c.toNat : Int) > 126
        · have : prn c = false := by unfold prn; rw [decide_eq_false (show ¬ c.toNat ≤ 126 by omega), Bool.and_false]
          rw [if_pos h2, this]; rfl
        · have : prn c = true := by unfold prn; rw [decide_eq_true (show 32 ≤ c.toNat by omega), decide_eq_true (show c.toNat ≤ 126 by omega)]; rfl
          rw [if_neg h2, this]; rfl
theorem sign_ev (kind : Int) (s : ByteArray) (hs : s.size ≤ 400) {k : Nat} (hk : 2 * s.size + 1 ≤ k) : paydeskref03_Signs.f k kind s = some (signB kind s) := by
  unfold paydeskref03_Signs.f
  have h := sign_l0 kind s hs s.size 0 k (by omega) hk
  rw [List.drop_zero] at h
  exact h
def rightD (d : Int × Int × Int × Bool) (s : ByteArray) : Bool := d.2.2.2 && (decide (0 < s.size) && (decide ((s.size : Int) ≤ d.2.2.1) && ((!decide (d.2.1 < 3) || decide (d.2.2.1 ≤ (s.size : Int))) && signB d.2.1 s)))
theorem fright_ev (n : Int) (s : ByteArray) (hs : s.size ≤ 400) {d : Int × Int × Int × Bool} (hd : defO n = some d) {k : Nat} (hk : 1000 ≤ k) : paydeskref03_Right.f k n s = some (rightD d s) := by
  unfold paydeskref03_Right.f
  rw [def03_ev n (by omega), hd, Option.bind_some]
  unfold rightD
  cases h0 : d.2.2.2 with
  | false => rfl
  | true =>
    rw [if_pos rfl, Bool.true_and]
    by_cases h1 : (s.size : Int) = 0
    · rw [if_pos h1, decide_eq_false (by omega)]; rfl
    · rw [if_neg h1, decide_eq_true (by omega), Bool.true_and]
      by_cases h2 : (s.size : Int) > d.2.2.1
      · rw [if_pos h2, decide_eq_false (by omega)]; rfl
      · rw [if_neg h2, decide_eq_true (by omega), Bool.true_and]
        by_cases h3 : d.2.1 < 3
        · rw [if_pos h3, decide_eq_true h3]
          by_cases h4 : (s.size : Int) < d.2.2.1
          · rw [if_pos h4, decide_eq_false (by omega)]; rfl
          · rw [if_neg h4, decide_eq_true (by omega), sign_ev _ s hs (by omega)]; rfl
        · rw [if_neg h3, decide_eq_false h3, sign_ev _ s hs (by omega)]; rfl
theorem ffright_ev (n : Int) (s : ByteArray) (hs : s.size ≤ 400) {d : Int × Int × Int × Bool} (hd : defO n = some d) {k : Nat} (hk : 1000 ≤ k) : field_Right.f k n s = some (rightD d s) := by
  unfold field_Right.f
  rw [if_neg (by omega), fright_ev n s hs hd hk]
  rfl
theorem ffright_is {n : Int} {s : ByteArray} {k : Nat} {r : Bool} [digit_Fine.Has] (h : field_Right.f k n s = some r) {d : Int × Int × Int × Bool} (hd : defO n = some d) : s.size ≤ 400 ∧ r = rightD d s := by
  by_cases hs : s.size ≤ 400
  · refine ⟨hs, ?_⟩
    have h1 := at_rounds (g := fun k => field_Right.f k n s) (fun k => field_Right.mono n s k) (Nat.le_max_left k 1000) h
    have h2 := ffright_ev n s hs hd (k := max k 1000) (Nat.le_max_right _ _)
    rw [show field_Right.f (max k 1000) n s = some r from h1] at h2
    injection h2
  · unfold field_Right.f at h
    rw [if_pos (by omega), if_pos (by omega), if_neg (by omega)] at h
    cases h
end Go.Proofs.YtkgkemihhfipaaaDoor.HK

/- Packed by pack.py (this session's own program): texts of the kit's printer and of my own, what is not used struck. -/
import Derived.Test.YtkgkemihhfipaaaDoorREvD
import Derived.Test.YtkgkemihhfipaaaDoorRHKx10
set_option linter.unusedVariables false
set_option linter.unusedSimpArgs false
set_option linter.unusedSectionVars false
namespace Go.Proofs.YtkgkemihhfipaaaDoor.HK
open Go.RowKit Go.Proofs.YtkgkemihhfipaaaDoorW.PrintWords Go.Proofs.YtkgkemihhfipaaaDoorW.PrintLast Go.Proofs.YtkgkemihhfipaaaDoorW.PrintMore
def asksB (kind : Int) : Bool := decide (kind = 1) || (decide (kind = 3) || (decide (kind = 5) || decide (kind = 6)))
theorem asks_ev (kind : Int) : deal_Asks.f kind = some (asksB kind) := by
  unfold deal_Asks.f asksB
  repeat' split
  all_goals simp_all
def dealB (kind : Int) (pan : ByteArray) (amt stan : Nat) (rrn code : ByteArray) : Bool :=
  (decide (1 ≤ kind) && decide (kind ≤ 7)) && (decide (stan < 1000000) && (fB 37 rrn && (if asksB kind then (fineB pan && (decide (pan.size < 20) && (decide (amt < 1000000000000) && decide (code.toList = [])))) else (fB 39 code && (decide (pan.toList = []) && decide (amt = 0))))))
def zeros32 : ByteArray := ⟨#[48, 48, 48, 48, 48, 48, 48, 48, 48, 48, 48, 48, 48, 48, 48, 48, 48, 48, 48, 48, 48, 48, 48, 48, 48, 48, 48, 48, 48, 48, 48, 48]⟩
def originS (s : ByteArray) : ByteArray := ((⟨#[48, 49, 48, 48]⟩ : ByteArray) ++ s) ++ zeros32
def itemsB (kind : Int) (pan : ByteArray) (amt stan : Nat) (rrn code : ByteArray) : List S114 :=
  if asksB kind then (if kind ≥ 5 then [⟨2, pan⟩, ⟨4, putO amt 12⟩, ⟨11, putO stan 6⟩, ⟨37, rrn⟩, ⟨90, originS (putO stan 6)⟩] else [⟨2, pan⟩, ⟨4, putO amt 12⟩, ⟨11, putO stan 6⟩, ⟨37, rrn⟩])
  else [⟨11, putO stan 6⟩, ⟨37, rrn⟩, ⟨39, code⟩]
theorem items_ev (kind : Int) (pan : ByteArray) (amt stan : Nat) (rrn code : ByteArray) (ha : amt < 18446744073709551616) (hs : stan < 4294967296) {k : Nat} (hk : 100 ≤ k) :
    deal_items.f k kind pan (amt : Int) (stan : Int) rrn code = some (itemsB kind pan amt stan rrn code) := by
  unfold deal_items.f
  have e1 : IntKind.u64.wrap (stan : Int) = (stan : Int) := IntWalk.u64_in _ (by omega)
  obtain ⟨c1, h1⟩ := putO_ev stan 6 k (by omega) (by omega) (by omega) (by omega)
  obtain ⟨c2, h2⟩ := putO_ev amt 12 k ha (by omega) (by omega) (by omega)
  have h1' : digit_Put.f k (stan : Int) 6 = some (putO stan 6, c1) := h1
  have h2' : digit_Put.f k (amt : Int) 12 = some (putO amt 12, c2) := h2
  rw [e1, h1', Option.bind_some, Option.bind_some, asks_ev, Option.bind_some]
  unfold itemsB
  have hp := putO_size stan 6 (by omega)
  cases asksB kind with
  | false =>
    simp only [↓reduceIte, Bool.false_eq_true]
    rw [if_pos (by simp)]
    rfl
  | true =>
    simp only [↓reduceIte]
    rw [h2', Option.bind_some, Option.bind_some, if_pos (by simp), Option.bind_some]
    by_cases h5 : kind ≥ 5
    · rw [if_pos h5, if_pos h5]
      have ht : deal_typeOf.f 1 = some ⟨#[48, 49, 48, 48]⟩ := rfl
      have hsz : (⟨#[48, 49, 48, 48]⟩ : ByteArray).size = 4 := rfl
      rw [ht, Option.bind_some]
      show (if (⟨#[48, 49, 48, 48]⟩ : ByteArray).size + (putO stan 6).size ≤ 9223372036854775807 then _ else none) = _
      rw [if_pos (by rw [hsz]; omega), if_pos (by rw [ByteArray.size_append, hsz]; show 4 + (putO stan 6).size + 32 ≤ _; omega), if_pos (by simp)]
      rfl
    · rw [if_neg h5, if_neg h5]
      rfl
theorem fB_2 (pan : ByteArray) (h : isB pan = true) : fB 2 pan = decide (pan.size < 20) := by
  show rightD (2, 3, 19, true) pan = _
  unfold rightD
  have hp : 0 < pan.size := by
    unfold isB at h
    simpa using (Bool.and_eq_true_iff.1 h).2
  have hs : signB 3 pan = true := by rw [signB_dig 3 (.inr rfl) pan hp]; exact h
  show (true && (decide (0 < pan.size) && (decide ((pan.size : Int) ≤ 19) && ((!decide ((3 : Int) < 3) || decide ((19 : Int) ≤ (pan.size : Int))) && signB 3 pan)))) = _
  rw [hs, decide_eq_true hp]
  simp
  omega
theorem append_all (p : UInt8 → Bool) (a b : ByteArray) : (a ++ b).data.toList.all p = (a.data.toList.all p && b.data.toList.all p) := by
  have : (a ++ b).data = a.data ++ b.data := ByteArray.data_append
  rw [this, Array.toList_append, List.all_append]
theorem fB_90 (v : Nat) : fB 90 (originS (putS v 6)) = true := by
  show rightD (90, 1, 42, true) (originS (putS v 6)) = true
  unfold rightD
  have hz : (originS (putS v 6)).size = 42 := by
    unfold originS
    rw [ByteArray.size_append, ByteArray.size_append, putS_size]
    rfl
  have hs : signB 1 (originS (putS v 6)) = true := by
    show (originS (putS v 6)).data.toList.all dig = true
    unfold originS
    rw [append_all, append_all, putS_dig]
    decide
  show (true && (decide (0 < (originS (putS v 6)).size) && (decide (((originS (putS v 6)).size : Int) ≤ 42) && ((!decide ((1 : Int) < 3) || decide ((42 : Int) ≤ ((originS (putS v 6)).size : Int))) && signB 1 (originS (putS v 6)))))) = true
  rw [hz, hs]
  decide
theorem known_type (kind : Int) : ∃ t, deal_typeOf.f kind = some t ∧ knownB t = (decide (1 ≤ kind) && decide (kind ≤ 7)) := by
  by_cases ho : kind < 0 ∨ 8 ≤ kind
  · refine ⟨_, typeOf_out kind ho, ?_⟩
    have : (decide (1 ≤ kind) && decide (kind ≤ 7)) = false := by
      rcases ho with h | h
      · rw [decide_eq_false (by omega)]; rfl
      · rw [decide_eq_false (show ¬ kind ≤ 7 by omega), Bool.and_false]
    rw [this]
    decide +kernel
  · obtain ⟨j, rfl⟩ : ∃ j : Nat, kind = (j : Int) := ⟨kind.toNat, by omega⟩
    refine ⟨_, typeOf_f j (by omega), ?_⟩
    match j, ho with
    | 0, _ => decide +kernel
    | 1, _ => decide +kernel
    | 2, _ => decide +kernel
    | 3, _ => decide +kernel
    | 4, _ => decide +kernel
    | 5, _ => decide +kernel
    | 6, _ => decide +kernel
    | 7, _ => decide +kernel
    | j + 8, h => exact absurd (show (((j + 8 : Nat) : Int) < 0 ∨ 8 ≤ ((j + 8 : Nat) : Int)) from .inr (by omega)) h
theorem items_short (kind : Int) (pan : ByteArray) (amt stan : Nat) (rrn code : ByteArray) (h1 : pan.size ≤ 400) (h2 : rrn.size ≤ 400) (h3 : code.size ≤ 400) : (∀ x ∈ itemsB kind pan amt stan rrn code, x.f1.size ≤ 400) ∧ (itemsB kind pan amt stan rrn code).length ≤ 5 ∧ 0 < (itemsB kind pan amt stan rrn code).length := by
  have p1 := putO_size stan 6 (by omega)
  have p2 := putO_size amt 12 (by omega)
  have p3 : (originS (putO stan 6)).size ≤ 400 := by
    unfold originS
    rw [ByteArray.size_append, ByteArray.size_append]
    show 4 + (putO stan 6).size + 32 ≤ 400
    omega
  unfold itemsB
  cases asksB kind with
  | false =>
    rw [if_neg (by simp)]
    refine ⟨fun x hx => ?_, by simp, by simp⟩
    simp only [List.mem_cons, List.not_mem_nil, or_false] at hx
    rcases hx with rfl | rfl | rfl
    · show (putO stan 6).size ≤ 400; omega
    · exact h2
    · exact h3
  | true =>
    rw [if_pos rfl]
    by_cases h5 : kind ≥ 5
    · rw [if_pos h5]
      refine ⟨fun x hx => ?_, by simp, by simp⟩
      simp only [List.mem_cons, List.not_mem_nil, or_false] at hx
      rcases hx with rfl | rfl | rfl | rfl | rfl
      · exact h1
      · show (putO amt 12).size ≤ 400; omega
      · show (putO stan 6).size ≤ 400; omega
      · exact h2
      · exact p3
    · rw [if_neg h5]
      refine ⟨fun x hx => ?_, by simp, by simp⟩
      simp only [List.mem_cons, List.not_mem_nil, or_false] at hx
      rcases hx with rfl | rfl | rfl | rfl
      · exact h1
      · show (putO amt 12).size ≤ 400; omega
      · show (putO stan 6).size ≤ 400; omega
      · exact h2
theorem fB_11 (v : Nat) : fB 11 (putO v 6) = decide (v < 1000000) := fB_putO 11 11 6 6 rfl rfl (by omega) v
theorem fB_4 (v : Nat) : fB 4 (putO v 12) = decide (v < 1000000000000) := fB_putO 4 4 12 12 rfl rfl (by omega) v
theorem items_ok (kind : Int) (pan : ByteArray) (amt stan : Nat) (rrn code : ByteArray) : itemsOk 0 (itemsB kind pan amt stan rrn code) =
    if asksB kind then (fB 2 pan && (decide (amt < 1000000000000) && (decide (stan < 1000000) && fB 37 rrn))) else (decide (stan < 1000000) && (fB 37 rrn && fB 39 code)) := by
  unfold itemsB
  cases asksB kind with
  | false =>
    rw [if_neg (by simp), if_neg (by simp)]
    simp [itemsOk, fB_11]
  | true =>
    rw [if_pos rfl, if_pos rfl]
    by_cases h5 : kind ≥ 5
    · rw [if_pos h5]
      simp only [itemsOk, fB_11, fB_4]
      by_cases hs : stan < 1000000
      · have : putO stan 6 = putS stan 6 := by
          unfold putO
          rw [if_neg]
          have : stan / 10 ^ 6 = 0 := Nat.div_eq_of_lt hs
          omega
        rw [this, fB_90]
        simp
      · rw [decide_eq_false hs]
        simp
    · rw [if_neg h5]
      simp [itemsOk, fB_11, fB_4]
theorem deal_ev (kind : Int) (pan : ByteArray) (amt stan : Nat) (rrn code : ByteArray) (ha : amt < 18446744073709551616) (hs : stan < 4294967296) (h1 : pan.size ≤ 400) (h2 : rrn.size ≤ 400) (h3 : code.size ≤ 400) {k : Nat} (hk : 2000 ≤ k) :
    deal_Right.f k kind pan (amt : Int) (stan : Int) rrn code = some (dealB kind pan amt stan rrn code) := by
  obtain ⟨t, ht, hkn⟩ := known_type kind
  obtain ⟨i1, i2, i3⟩ := items_short kind pan amt stan rrn code h1 h2 h3
  have hmsg : ∀ k, 1500 ≤ k → message_Right.f k t (itemsB kind pan amt stan rrn code) = some (itemsOk 0 (itemsB kind pan amt stan rrn code) && knownB t) := by
    intro k hk
    rw [msg_ev t _ i1 (by omega) (by omega), decide_eq_true i3, Bool.and_true]
  have hj0 : ∀ k b, 1600 ≤ k → deal_Right.j0 k b kind pan (amt : Int) (stan : Int) rrn code = if b = true then some false else some (itemsOk 0 (itemsB kind pan amt stan rrn code) && knownB t) := by
    intro k b hk
    obtain ⟨k, rfl⟩ : ∃ m, k = m + 1 := ⟨k - 1, by omega⟩
    simp only [deal_Right.j0]
    cases b with
    | true => rfl
    | false => simp only [↓reduceIte, Bool.false_eq_true]; rw [ht, Option.bind_some, items_ev kind pan amt stan rrn code ha hs (by omega), Option.bind_some, hmsg k (by omega)]; rfl
  have hj1 : ∀ k b, 1600 ≤ k → deal_Right.j1 k b kind pan (amt : Int) (stan : Int) rrn code = if b = true then some false else some (itemsOk 0 (itemsB kind pan amt stan rrn code) && knownB t) := by
    intro k b hk
    obtain ⟨k, rfl⟩ : ∃ m, k = m + 1 := ⟨k - 1, by omega⟩
    simp only [deal_Right.j1]
    cases b with
    | true => rfl
    | false => simp only [↓reduceIte, Bool.false_eq_true]; rw [ht, Option.bind_some, items_ev kind pan amt stan rrn code ha hs (by omega), Option.bind_some, hmsg k (by omega)]; rfl
  unfold deal_Right.f
  rw [asks_ev, Option.bind_some]
  unfold dealB
  have hio := items_ok kind pan amt stan rrn code
  cases hak : asksB kind with
  | true =>
    rw [hak, if_pos rfl] at hio
    simp only [↓reduceIte]
    by_cases hc : code.toList = []
    · rw [if_pos hc, dfine_ev pan h1 (by omega), Option.bind_some, hj0 k _ (by omega), decide_eq_true hc]
      cases hf : fineB pan with
      | false => simp
      | true =>
        have hb : isB pan = true := by
          unfold fineB at hf
          exact (Bool.and_eq_true_iff.1 hf).1
        rw [if_neg (by simp), hio, fB_2 pan hb, hkn]
        congr 1
        cases decide (pan.size < 20) <;> cases decide (amt < 1000000000000) <;> cases decide (stan < 1000000) <;> cases fB 37 rrn <;> cases (decide (1 ≤ kind) && decide (kind ≤ 7)) <;> rfl
    · rw [if_neg hc, hj0 k _ (by omega), if_pos rfl, decide_eq_false hc]
      simp
  | false =>
    rw [hak, if_neg (by simp)] at hio
    simp only [↓reduceIte, Bool.false_eq_true]
    by_cases hc : pan.toList = []
    · rw [if_pos hc, hj1 k _ (by omega), decide_eq_true hc]
      by_cases h0 : amt = 0
      · subst h0
        rw [if_neg (by simp), hio, hkn]
        congr 1
        cases decide (stan < 1000000) <;> cases fB 37 rrn <;> cases fB 39 code <;> cases (decide (1 ≤ kind) && decide (kind ≤ 7)) <;> rfl
      · rw [if_pos (by simp; omega), decide_eq_false h0]
        simp
    · rw [if_neg hc, hj1 k _ (by omega), if_pos rfl, decide_eq_false hc]
      simp
def keyB (stan : Nat) (rrn : ByteArray) : Bool := decide (stan < 1000000) && fB 37 rrn
theorem key_ev (stan : Nat) (rrn : ByteArray) (hs : stan < 4294967296) (h2 : rrn.size ≤ 400) {k : Nat} (hk : 2000 ≤ k) : key_Right.f k (stan : Int) rrn = some (keyB stan rrn) := by
  unfold key_Right.f
  have h := deal_ev 7 ⟨#[]⟩ 0 stan rrn ⟨#[48, 48]⟩ (by omega) hs (by show (0 : Nat) ≤ 400; omega) h2 (by show (2 : Nat) ≤ 400; omega) hk
  have h' : deal_Right.f k 7 (⟨#[]⟩ : ByteArray) 0 (stan : Int) rrn (⟨#[48, 48]⟩ : ByteArray) = some (dealB 7 ⟨#[]⟩ 0 stan rrn ⟨#[48, 48]⟩) := h
  rw [h', Option.bind_some]
  have hc : fB 39 ⟨#[48, 48]⟩ = true := by decide +kernel
  have : dealB 7 ⟨#[]⟩ 0 stan rrn ⟨#[48, 48]⟩ = keyB stan rrn := by
    unfold dealB keyB
    rw [hc]
    have : asksB 7 = false := rfl
    rw [this, if_neg (by simp)]
    have h1 : (decide ((1 : Int) ≤ 7) && decide ((7 : Int) ≤ 7)) = true := rfl
    have h2 : decide ((⟨#[]⟩ : ByteArray).toList = []) = true := by decide +kernel
    rw [h1, h2]
    simp
  rw [this]
theorem key7_ev (stan : Nat) (rrn : ByteArray) (h2 : rrn.size ≤ 400) {k : Nat} (hk : 2000 ≤ k) : paydeskref07_Right.f k (stan : Int) rrn = some (keyB stan rrn) := by
  unfold paydeskref07_Right.f keyB
  by_cases h : (stan : Int) ≤ 999999
  · rw [if_pos h, rB_ev 37 rrn h2 (by omega), decide_eq_true (by omega)]
    rfl
  · rw [if_neg h, decide_eq_false (by omega)]
    rfl
end Go.Proofs.YtkgkemihhfipaaaDoor.HK

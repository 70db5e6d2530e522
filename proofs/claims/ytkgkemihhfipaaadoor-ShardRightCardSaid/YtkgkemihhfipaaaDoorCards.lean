/-
  DERIVED. GIVEN WITH THE SEED: THE CARDS: each row of YtkgkemihhfipaaaDoorRows.lean that lists a variable, with what it lists TIED to the program's text (the seventh form; the later family's looks); each row that meets fmt, with fmt's text TOLD by the authors' own Lean function (tested against real Go, not proved from fmt's source: count such statements apart). THE CARD IS WHAT COUNTS. Prove the row's statement (the work); the ties are given (YtkgkemihhfipaaaDoorTie.lean); close each card by the builder's one call (the guide's Derived/Test/ToyasCard.lean, 'card_holds'). Laid BY PROGRAM, IN A SANDBOX (cutbox-door.mjs). By AI agents, Wed Nov 11 2026. No macro, syntax, notation, axiom, sorry.
-/
import Derived.Test.YtkgkemihhfipaaaDoorRows
import GoSem.ClaimSeven
namespace Go.Proofs.YtkgkemihhfipaaaDoor
namespace Rows

/-- THE TIED CARD OF 'paydesklaw10.ShardRight'. -/
def shardRightCard : Claim7 := { stood := { row := shardRightRow, standIns := [], harness := (true, "4010c5786d6834d62b77ef58e22e2ca8feefe1243b7981cacabb341e92c18018"), looks := false }, kinds := [], alts := [], laidByText := true, laidKinds := [.data], laidTests := true, laidLooks := .later }
def ShardRightCardSaid : Prop := Claim7.holds Tryd.pinned (.plain (OpenSpec.ofChange shardRightSpec)) shardRightCard

/-- THE TIED CARD OF 'paydesklaw10.ShardSwaps'. -/
def shardSwapsCard : Claim7 := { stood := { row := shardSwapsRow, standIns := [], harness := (true, "4010c5786d6834d62b77ef58e22e2ca8feefe1243b7981cacabb341e92c18018"), looks := false }, kinds := [], alts := [], laidByText := true, laidKinds := [.data], laidTests := true, laidLooks := .later }
def ShardSwapsCardSaid : Prop := Claim7.holds Tryd.pinned (.plain (OpenSpec.ofChange shardSwapsSpec)) shardSwapsCard

/-- THE TIED CARD OF 'paydesklaw15.LedgerRight'. -/
def ledgerRightCard : Claim7 := { stood := { row := ledgerRightRow, standIns := [], harness := (true, "4010c5786d6834d62b77ef58e22e2ca8feefe1243b7981cacabb341e92c18018"), looks := false }, kinds := [], alts := [], laidByText := true, laidKinds := [.data], laidTests := true, laidLooks := .later }
def LedgerRightCardSaid : Prop := Claim7.holds Tryd.pinned (.plain (OpenSpec.ofChange ledgerRightSpec)) ledgerRightCard

/-- THE TIED CARD OF 'paydesklaw15.LedgerOnce'. -/
def ledgerOnceCard : Claim7 := { stood := { row := ledgerOnceRow, standIns := [], harness := (true, "4010c5786d6834d62b77ef58e22e2ca8feefe1243b7981cacabb341e92c18018"), looks := false }, kinds := [], alts := [], laidByText := true, laidKinds := [.data], laidTests := true, laidLooks := .later }
def LedgerOnceCardSaid : Prop := Claim7.holds Tryd.pinned (.plain (OpenSpec.ofChange ledgerOnceSpec)) ledgerOnceCard

/-- THE TIED CARD OF 'paydesklaw15.LedgerTwice'. -/
def ledgerTwiceCard : Claim7 := { stood := { row := ledgerTwiceRow, standIns := [], harness := (true, "4010c5786d6834d62b77ef58e22e2ca8feefe1243b7981cacabb341e92c18018"), looks := false }, kinds := [], alts := [], laidByText := true, laidKinds := [.data], laidTests := true, laidLooks := .later }
def LedgerTwiceCardSaid : Prop := Claim7.holds Tryd.pinned (.plain (OpenSpec.ofChange ledgerTwiceSpec)) ledgerTwiceCard

/-- THE SECOND FORM's CARD OF 'paydesklaw10.ShardRight'. -/
def shardRightUptoCard : Claim7 := { stood := { row := shardRightUptoRow, standIns := [], harness := (true, "4010c5786d6834d62b77ef58e22e2ca8feefe1243b7981cacabb341e92c18018"), looks := false }, kinds := [], alts := [], laidByText := true, laidKinds := [.data], laidTests := true, laidLooks := .later }
def ShardRightUptoCardSaid : Prop := Claim7.holds Tryd.pinned (.plain (OpenSpec.upto shardRightSpec)) shardRightUptoCard

/-- THE SECOND FORM's CARD OF 'paydesklaw10.ShardSwaps'. -/
def shardSwapsUptoCard : Claim7 := { stood := { row := shardSwapsUptoRow, standIns := [], harness := (true, "4010c5786d6834d62b77ef58e22e2ca8feefe1243b7981cacabb341e92c18018"), looks := false }, kinds := [], alts := [], laidByText := true, laidKinds := [.data], laidTests := true, laidLooks := .later }
def ShardSwapsUptoCardSaid : Prop := Claim7.holds Tryd.pinned (.plain (OpenSpec.upto shardSwapsSpec)) shardSwapsUptoCard

/-- THE SECOND FORM's CARD OF 'paydesklaw15.LedgerRight'. -/
def ledgerRightUptoCard : Claim7 := { stood := { row := ledgerRightUptoRow, standIns := [], harness := (true, "4010c5786d6834d62b77ef58e22e2ca8feefe1243b7981cacabb341e92c18018"), looks := false }, kinds := [], alts := [], laidByText := true, laidKinds := [.data], laidTests := true, laidLooks := .later }
def LedgerRightUptoCardSaid : Prop := Claim7.holds Tryd.pinned (.plain (OpenSpec.upto ledgerRightSpec)) ledgerRightUptoCard

/-- THE SECOND FORM's CARD OF 'paydesklaw15.LedgerOnce'. -/
def ledgerOnceUptoCard : Claim7 := { stood := { row := ledgerOnceUptoRow, standIns := [], harness := (true, "4010c5786d6834d62b77ef58e22e2ca8feefe1243b7981cacabb341e92c18018"), looks := false }, kinds := [], alts := [], laidByText := true, laidKinds := [.data], laidTests := true, laidLooks := .later }
def LedgerOnceUptoCardSaid : Prop := Claim7.holds Tryd.pinned (.plain (OpenSpec.upto ledgerOnceSpec)) ledgerOnceUptoCard

/-- THE SECOND FORM's CARD OF 'paydesklaw15.LedgerTwice'. -/
def ledgerTwiceUptoCard : Claim7 := { stood := { row := ledgerTwiceUptoRow, standIns := [], harness := (true, "4010c5786d6834d62b77ef58e22e2ca8feefe1243b7981cacabb341e92c18018"), looks := false }, kinds := [], alts := [], laidByText := true, laidKinds := [.data], laidTests := true, laidLooks := .later }
def LedgerTwiceUptoCardSaid : Prop := Claim7.holds Tryd.pinned (.plain (OpenSpec.upto ledgerTwiceSpec)) ledgerTwiceUptoCard
end Rows
end Go.Proofs.YtkgkemihhfipaaaDoor

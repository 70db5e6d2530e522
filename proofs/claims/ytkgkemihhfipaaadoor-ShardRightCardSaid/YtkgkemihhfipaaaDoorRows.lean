/-
  NARROWER THAN 'FOR EVERY INPUT', by the rows' own cells (each row's printed sentence says how): ShardRight: laid · ShardSwaps: laid · LedgerRight: laid · LedgerOnce: laid · LedgerTwice: laid.
  DERIVED. THE GIVEN ROWS OF THIS SEAT. 5 by the template 'for every input the law returns true; each argument reads behind the call as it read before'; 0 by the template 'total and deterministic' (their statements: YtkgkemihhfipaaaDoorTotals.lean).
  GIVEN WITH THE SEED: the statements are not yours to turn. If you find one false, say at which input.
  Laid BY PROGRAM, IN A SANDBOX (cutbox-rows.mjs): the forced cells as the released guide's own fill.sh prints them over the translation 0ae62c0aac634623… (all of the seat's roots in one cut). By AI agents, Wed Nov 11 2026. No macro, syntax, notation, axiom, sorry.
-/
import Derived.Test.YtkgkemihhfipaaaDoorChecked
import GoSem.Claim
import GoSem.ClaimJoined
import GoSem.ClaimMapViews
import Derived.JoinedTies
import Derived.KernelRfl
namespace Go.Proofs.YtkgkemihhfipaaaDoor
/- THE CELL 'sum', in the pinned program and in every row, IS THE sha256 OF THE DUMP (.gsa) THAT YtkgkemihhfipaaaDoorProg.lean LOADS. Nothing in Lean hashes anything: it is a label: what it is worth is what the hold of that sum in a sandbox is worth. -/
noncomputable def Tryd.pinned : Pinned := { name := "ytkgkemihhfipaaadoor", sum := "0ae62c0aac6346233ad2a8c8e511b4a812ea4a03990fcc08318346d150dea5e2", checked := Tryd.checked }
namespace Rows
def none {H : Type} : Left H := { results := [], args := [] }

/- WHAT THE LISTED PACKAGE-LEVEL VARIABLES READ AS WHEN THE CALL BEGINS. Each datum BY PROGRAM (the guide's laid-datum.mjs) off the statement by which the dump's own 'gosem.cut.vars' lays the variable. In a bare row this is a premise. The card (YtkgkemihhfipaaaDoorCards.lean) ties it to the program's text. -/
def laid_paydesk_deal_types {H : Type} : DataW H := .agg [.lit (.string []), .lit (.string [48, 49, 48, 48]), .lit (.string [48, 49, 49, 48]), .lit (.string [48, 52, 48, 48]), .lit (.string [48, 52, 49, 48]), .lit (.string [48, 52, 50, 48]), .lit (.string [48, 52, 50, 49]), .lit (.string [48, 52, 51, 48])]

/-- 'paydesklaw10.ShardRight': WHATEVER THE INPUT: true; the input reads as it did. -/
def shardRightSpec : ChangeSpec := { name := "shardRight", fn := fun _ => fun
  | [d1, d2, d3, d4] => { results := [.lit (.bool true)], args := [d1, d2, d3, d4] }
  | _ => none }
def shardRightRow : OpenClaim := { program := "ytkgkemihhfipaaadoor", sum := "0ae62c0aac6346233ad2a8c8e511b4a812ea4a03990fcc08318346d150dea5e2", func := "paydesk/paydesklaw10.ShardRight", spec := "shardRight", inPlace := ["slices.overlaps[paydesk/api.Entry]"], unfollowed := true, recurses := true, named := ["paydesk/deal.types"], apart := false, laid := [("paydesk/deal.types", laid_paydesk_deal_types)] }
def ShardRightSaid : Prop := shardRightRow.holds Tryd.pinned (OpenSpec.ofChange shardRightSpec)

/-- ITS FALSE NEIGHBOUR: 'it returns false'. Refute it at one input. -/
def shardRightWrong : ChangeSpec := { name := "shardRight", fn := fun _ => fun
  | [d1, d2, d3, d4] => { results := [.lit (.bool false)], args := [d1, d2, d3, d4] }
  | _ => none }
def ShardRightWrongFalsely : Prop := shardRightRow.holds Tryd.pinned (OpenSpec.ofChange shardRightWrong)

/-- 'paydesklaw10.ShardSwaps': WHATEVER THE INPUT: true; the input reads as it did. -/
def shardSwapsSpec : ChangeSpec := { name := "shardSwaps", fn := fun _ => fun
  | [d1, d2, d3, d4] => { results := [.lit (.bool true)], args := [d1, d2, d3, d4] }
  | _ => none }
def shardSwapsRow : OpenClaim := { program := "ytkgkemihhfipaaadoor", sum := "0ae62c0aac6346233ad2a8c8e511b4a812ea4a03990fcc08318346d150dea5e2", func := "paydesk/paydesklaw10.ShardSwaps", spec := "shardSwaps", inPlace := ["slices.overlaps[paydesk/api.Entry]"], unfollowed := true, recurses := true, named := ["paydesk/deal.types"], apart := false, laid := [("paydesk/deal.types", laid_paydesk_deal_types)] }
def ShardSwapsSaid : Prop := shardSwapsRow.holds Tryd.pinned (OpenSpec.ofChange shardSwapsSpec)

/-- ITS FALSE NEIGHBOUR: 'it returns false'. Refute it at one input. -/
def shardSwapsWrong : ChangeSpec := { name := "shardSwaps", fn := fun _ => fun
  | [d1, d2, d3, d4] => { results := [.lit (.bool false)], args := [d1, d2, d3, d4] }
  | _ => none }
def ShardSwapsWrongFalsely : Prop := shardSwapsRow.holds Tryd.pinned (OpenSpec.ofChange shardSwapsWrong)

/-- 'paydesklaw15.LedgerRight': WHATEVER THE INPUT: true; the input reads as it did. -/
def ledgerRightSpec : ChangeSpec := { name := "ledgerRight", fn := fun _ => fun
  | [d1, d2, d3, d4] => { results := [.lit (.bool true)], args := [d1, d2, d3, d4] }
  | _ => none }
def ledgerRightRow : OpenClaim := { program := "ytkgkemihhfipaaadoor", sum := "0ae62c0aac6346233ad2a8c8e511b4a812ea4a03990fcc08318346d150dea5e2", func := "paydesk/paydesklaw15.LedgerRight", spec := "ledgerRight", inPlace := ["slices.overlaps[paydesk/api.Hold]"], unfollowed := true, recurses := true, named := ["paydesk/deal.types"], apart := false, laid := [("paydesk/deal.types", laid_paydesk_deal_types)] }
def LedgerRightSaid : Prop := ledgerRightRow.holds Tryd.pinned (OpenSpec.ofChange ledgerRightSpec)

/-- ITS FALSE NEIGHBOUR: 'it returns false'. Refute it at one input. -/
def ledgerRightWrong : ChangeSpec := { name := "ledgerRight", fn := fun _ => fun
  | [d1, d2, d3, d4] => { results := [.lit (.bool false)], args := [d1, d2, d3, d4] }
  | _ => none }
def LedgerRightWrongFalsely : Prop := ledgerRightRow.holds Tryd.pinned (OpenSpec.ofChange ledgerRightWrong)

/-- 'paydesklaw15.LedgerOnce': WHATEVER THE INPUT: true; the input reads as it did. -/
def ledgerOnceSpec : ChangeSpec := { name := "ledgerOnce", fn := fun _ => fun
  | [d1, d2, d3] => { results := [.lit (.bool true)], args := [d1, d2, d3] }
  | _ => none }
def ledgerOnceRow : OpenClaim := { program := "ytkgkemihhfipaaadoor", sum := "0ae62c0aac6346233ad2a8c8e511b4a812ea4a03990fcc08318346d150dea5e2", func := "paydesk/paydesklaw15.LedgerOnce", spec := "ledgerOnce", inPlace := ["slices.overlaps[paydesk/api.Hold]"], unfollowed := true, recurses := true, named := ["paydesk/deal.types"], apart := false, laid := [("paydesk/deal.types", laid_paydesk_deal_types)] }
def LedgerOnceSaid : Prop := ledgerOnceRow.holds Tryd.pinned (OpenSpec.ofChange ledgerOnceSpec)

/-- ITS FALSE NEIGHBOUR: 'it returns false'. Refute it at one input. -/
def ledgerOnceWrong : ChangeSpec := { name := "ledgerOnce", fn := fun _ => fun
  | [d1, d2, d3] => { results := [.lit (.bool false)], args := [d1, d2, d3] }
  | _ => none }
def LedgerOnceWrongFalsely : Prop := ledgerOnceRow.holds Tryd.pinned (OpenSpec.ofChange ledgerOnceWrong)

/-- 'paydesklaw15.LedgerTwice': WHATEVER THE INPUT: true; the input reads as it did. -/
def ledgerTwiceSpec : ChangeSpec := { name := "ledgerTwice", fn := fun _ => fun
  | [d1, d2, d3, d4] => { results := [.lit (.bool true)], args := [d1, d2, d3, d4] }
  | _ => none }
def ledgerTwiceRow : OpenClaim := { program := "ytkgkemihhfipaaadoor", sum := "0ae62c0aac6346233ad2a8c8e511b4a812ea4a03990fcc08318346d150dea5e2", func := "paydesk/paydesklaw15.LedgerTwice", spec := "ledgerTwice", inPlace := ["slices.overlaps[paydesk/api.Hold]"], unfollowed := true, recurses := true, named := ["paydesk/deal.types"], apart := false, laid := [("paydesk/deal.types", laid_paydesk_deal_types)] }
def LedgerTwiceSaid : Prop := ledgerTwiceRow.holds Tryd.pinned (OpenSpec.ofChange ledgerTwiceSpec)

/-- ITS FALSE NEIGHBOUR: 'it returns false'. Refute it at one input. -/
def ledgerTwiceWrong : ChangeSpec := { name := "ledgerTwice", fn := fun _ => fun
  | [d1, d2, d3, d4] => { results := [.lit (.bool false)], args := [d1, d2, d3, d4] }
  | _ => none }
def LedgerTwiceWrongFalsely : Prop := ledgerTwiceRow.holds Tryd.pinned (OpenSpec.ofChange ledgerTwiceWrong)

/- THE SECOND FORM. 'bulk': how many values and letters a reading holds, each counted each time it is reached (what is shared counts as often as it is met; a slice's spare places count too). A statement '..UptoSaid' is the law's where the arguments, and the package variables that the reading takes, are together of bulk at most 1048576: NARROWER than '..Said'. Prove '..Said' where nothing that the law and all that it calls make is longer than what came in: it says more and counts as full. Else prove '..UptoSaid'. A law counts once. -/
mutual
def uptoBulk {H : Type} : DataW H → Nat
  | .lit (.string bytes) => bytes.length + 1
  | .lit _ => 1
  | .nil => 1
  | .ptr d => uptoBulk d + 1
  | .slice elems spare => uptoBulkAll elems + uptoBulkAll spare + 1
  | .agg parts => uptoBulkAll parts + 1
  | .iface _ d => uptoBulk d + 1
  | .map entries => uptoBulkEntries entries + 1
  | .held _ => 1
def uptoBulkAll {H : Type} : List (DataW H) → Nat
  | [] => 0
  | d :: r => uptoBulk d + uptoBulkAll r
def uptoBulkEntries {H : Type} : List (Lit × DataW H) → Nat
  | [] => 0
  | x :: r => uptoBulkEntry x + uptoBulkEntries r
def uptoBulkEntry {H : Type} : Lit × DataW H → Nat
  | (.string bytes, d) => bytes.length + uptoBulk d + 1
  | (_, d) => uptoBulk d + 1
 end
def uptoSmall : (H : Type) → List (DataW H) → Bool := fun _ ds => decide (uptoBulkAll ds ≤ 1048576)
def OpenSpec.upto (s : _root_.Go.ChangeSpec) : _root_.Go.OpenSpec := { _root_.Go.OpenSpec.ofChange s with cond := some uptoSmall }

/-- 'paydesklaw10.ShardRight', WHERE WHAT IT READS IS OF BULK AT MOST 1048576: true; the input reads as it did. -/
def shardRightUptoRow : OpenClaim := { program := "ytkgkemihhfipaaadoor", sum := "0ae62c0aac6346233ad2a8c8e511b4a812ea4a03990fcc08318346d150dea5e2", func := "paydesk/paydesklaw10.ShardRight", spec := "shardRight", inPlace := ["slices.overlaps[paydesk/api.Entry]"], unfollowed := true, recurses := true, named := ["paydesk/deal.types"], apart := false, laid := [("paydesk/deal.types", laid_paydesk_deal_types)], narrowed := true }
def ShardRightUptoSaid : Prop := shardRightUptoRow.holds Tryd.pinned (OpenSpec.upto shardRightSpec)

/-- 'paydesklaw10.ShardSwaps', WHERE WHAT IT READS IS OF BULK AT MOST 1048576: true; the input reads as it did. -/
def shardSwapsUptoRow : OpenClaim := { program := "ytkgkemihhfipaaadoor", sum := "0ae62c0aac6346233ad2a8c8e511b4a812ea4a03990fcc08318346d150dea5e2", func := "paydesk/paydesklaw10.ShardSwaps", spec := "shardSwaps", inPlace := ["slices.overlaps[paydesk/api.Entry]"], unfollowed := true, recurses := true, named := ["paydesk/deal.types"], apart := false, laid := [("paydesk/deal.types", laid_paydesk_deal_types)], narrowed := true }
def ShardSwapsUptoSaid : Prop := shardSwapsUptoRow.holds Tryd.pinned (OpenSpec.upto shardSwapsSpec)

/-- 'paydesklaw15.LedgerRight', WHERE WHAT IT READS IS OF BULK AT MOST 1048576: true; the input reads as it did. -/
def ledgerRightUptoRow : OpenClaim := { program := "ytkgkemihhfipaaadoor", sum := "0ae62c0aac6346233ad2a8c8e511b4a812ea4a03990fcc08318346d150dea5e2", func := "paydesk/paydesklaw15.LedgerRight", spec := "ledgerRight", inPlace := ["slices.overlaps[paydesk/api.Hold]"], unfollowed := true, recurses := true, named := ["paydesk/deal.types"], apart := false, laid := [("paydesk/deal.types", laid_paydesk_deal_types)], narrowed := true }
def LedgerRightUptoSaid : Prop := ledgerRightUptoRow.holds Tryd.pinned (OpenSpec.upto ledgerRightSpec)

/-- 'paydesklaw15.LedgerOnce', WHERE WHAT IT READS IS OF BULK AT MOST 1048576: true; the input reads as it did. -/
def ledgerOnceUptoRow : OpenClaim := { program := "ytkgkemihhfipaaadoor", sum := "0ae62c0aac6346233ad2a8c8e511b4a812ea4a03990fcc08318346d150dea5e2", func := "paydesk/paydesklaw15.LedgerOnce", spec := "ledgerOnce", inPlace := ["slices.overlaps[paydesk/api.Hold]"], unfollowed := true, recurses := true, named := ["paydesk/deal.types"], apart := false, laid := [("paydesk/deal.types", laid_paydesk_deal_types)], narrowed := true }
def LedgerOnceUptoSaid : Prop := ledgerOnceUptoRow.holds Tryd.pinned (OpenSpec.upto ledgerOnceSpec)

/-- 'paydesklaw15.LedgerTwice', WHERE WHAT IT READS IS OF BULK AT MOST 1048576: true; the input reads as it did. -/
def ledgerTwiceUptoRow : OpenClaim := { program := "ytkgkemihhfipaaadoor", sum := "0ae62c0aac6346233ad2a8c8e511b4a812ea4a03990fcc08318346d150dea5e2", func := "paydesk/paydesklaw15.LedgerTwice", spec := "ledgerTwice", inPlace := ["slices.overlaps[paydesk/api.Hold]"], unfollowed := true, recurses := true, named := ["paydesk/deal.types"], apart := false, laid := [("paydesk/deal.types", laid_paydesk_deal_types)], narrowed := true }
def LedgerTwiceUptoSaid : Prop := ledgerTwiceUptoRow.holds Tryd.pinned (OpenSpec.upto ledgerTwiceSpec)

end Rows
end Go.Proofs.YtkgkemihhfipaaaDoor

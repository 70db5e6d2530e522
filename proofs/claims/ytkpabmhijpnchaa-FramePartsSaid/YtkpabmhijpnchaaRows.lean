/-
  No cell of these rows narrows 'for every input' (looked for: loops, veiled, ifaces, maps, wideKeys, modest, calm, conditions, laid).
  DERIVED. THE GIVEN ROWS OF THIS SEAT. 5 by the template 'for every input the law returns true; each argument reads behind the call as it read before'; 0 by the template 'total and deterministic' (their statements: YtkpabmhijpnchaaTotals.lean).
  GIVEN WITH THE SEED: the statements are not yours to turn. If you find one false, say at which input.
  Laid BY PROGRAM, IN A SANDBOX (cutbox-rows.mjs): the forced cells as the released guide's own fill.sh prints them over the translation 317921506309fb67… (all of the seat's roots in one cut). By AI agents, Wed Nov 11 2026. No macro, syntax, notation, axiom, sorry.
-/
import Derived.Test.YtkpabmhijpnchaaChecked
import GoSem.Claim
import GoSem.ClaimJoined
import GoSem.ClaimMapViews
import Derived.JoinedTies
import Derived.KernelRfl
namespace Go.Proofs.Ytkpabmhijpnchaa
/- THE CELL 'sum', in the pinned program and in every row, IS THE sha256 OF THE DUMP (.gsa) THAT YtkpabmhijpnchaaProg.lean LOADS. Nothing in Lean hashes anything: it is a label: what it is worth is what the hold of that sum in a sandbox is worth. -/
noncomputable def Try.pinned : Pinned := { name := "ytkpabmhijpnchaa", sum := "317921506309fb67fd957be3c2b0c427523ea99da123dc8da45c1eaae72721b5", checked := Try.checked }
namespace Rows
def none {H : Type} : Left H := { results := [], args := [] }

/-- 'paydesklaw19.WireRight': WHATEVER THE INPUT: true; the input reads as it did. -/
def wireRightSpec : ChangeSpec := { name := "wireRight", fn := fun _ => fun
  | [d1, d2, d3] => { results := [.lit (.bool true)], args := [d1, d2, d3] }
  | _ => none }
def wireRightRow : OpenClaim := { program := "ytkpabmhijpnchaa", sum := "317921506309fb67fd957be3c2b0c427523ea99da123dc8da45c1eaae72721b5", func := "paydesk/paydesklaw19.WireRight", spec := "wireRight", apart := false }
def WireRightSaid : Prop := wireRightRow.holds Try.pinned (OpenSpec.ofChange wireRightSpec)

/-- ITS FALSE NEIGHBOUR: 'it returns false'. Refute it at one input. -/
def wireRightWrong : ChangeSpec := { name := "wireRight", fn := fun _ => fun
  | [d1, d2, d3] => { results := [.lit (.bool false)], args := [d1, d2, d3] }
  | _ => none }
def WireRightWrongFalsely : Prop := wireRightRow.holds Try.pinned (OpenSpec.ofChange wireRightWrong)

/-- 'paydesklaw19.WireFrames': WHATEVER THE INPUT: true; the input reads as it did. -/
def wireFramesSpec : ChangeSpec := { name := "wireFrames", fn := fun _ => fun
  | [d1, d2, d3] => { results := [.lit (.bool true)], args := [d1, d2, d3] }
  | _ => none }
def wireFramesRow : OpenClaim := { program := "ytkpabmhijpnchaa", sum := "317921506309fb67fd957be3c2b0c427523ea99da123dc8da45c1eaae72721b5", func := "paydesk/paydesklaw19.WireFrames", spec := "wireFrames", apart := false }
def WireFramesSaid : Prop := wireFramesRow.holds Try.pinned (OpenSpec.ofChange wireFramesSpec)

/-- ITS FALSE NEIGHBOUR: 'it returns false'. Refute it at one input. -/
def wireFramesWrong : ChangeSpec := { name := "wireFrames", fn := fun _ => fun
  | [d1, d2, d3] => { results := [.lit (.bool false)], args := [d1, d2, d3] }
  | _ => none }
def WireFramesWrongFalsely : Prop := wireFramesRow.holds Try.pinned (OpenSpec.ofChange wireFramesWrong)

/-- 'paydesklaw08.HandRight': WHATEVER THE INPUT: true; the input reads as it did. -/
def handRightSpec : ChangeSpec := { name := "handRight", fn := fun _ => fun
  | [d1, d2, d3, d4, d5, d6] => { results := [.lit (.bool true)], args := [d1, d2, d3, d4, d5, d6] }
  | _ => none }
def handRightRow : OpenClaim := { program := "ytkpabmhijpnchaa", sum := "317921506309fb67fd957be3c2b0c427523ea99da123dc8da45c1eaae72721b5", func := "paydesk/paydesklaw08.HandRight", spec := "handRight", inPlace := ["math.archTrunc", "math.Float64bits", "math.Float64frombits"], apart := false }
def HandRightSaid : Prop := handRightRow.holds Try.pinned (OpenSpec.ofChange handRightSpec)

/-- ITS FALSE NEIGHBOUR: 'it returns false'. Refute it at one input. -/
def handRightWrong : ChangeSpec := { name := "handRight", fn := fun _ => fun
  | [d1, d2, d3, d4, d5, d6] => { results := [.lit (.bool false)], args := [d1, d2, d3, d4, d5, d6] }
  | _ => none }
def HandRightWrongFalsely : Prop := handRightRow.holds Try.pinned (OpenSpec.ofChange handRightWrong)

/-- 'paydesklaw08.HandTurns': WHATEVER THE INPUT: true; the input reads as it did. -/
def handTurnsSpec : ChangeSpec := { name := "handTurns", fn := fun _ => fun
  | [d1, d2, d3] => { results := [.lit (.bool true)], args := [d1, d2, d3] }
  | _ => none }
def handTurnsRow : OpenClaim := { program := "ytkpabmhijpnchaa", sum := "317921506309fb67fd957be3c2b0c427523ea99da123dc8da45c1eaae72721b5", func := "paydesk/paydesklaw08.HandTurns", spec := "handTurns", inPlace := ["math.archTrunc", "math.Float64bits", "math.Float64frombits"], apart := false }
def HandTurnsSaid : Prop := handTurnsRow.holds Try.pinned (OpenSpec.ofChange handTurnsSpec)

/-- ITS FALSE NEIGHBOUR: 'it returns false'. Refute it at one input. -/
def handTurnsWrong : ChangeSpec := { name := "handTurns", fn := fun _ => fun
  | [d1, d2, d3] => { results := [.lit (.bool false)], args := [d1, d2, d3] }
  | _ => none }
def HandTurnsWrongFalsely : Prop := handTurnsRow.holds Try.pinned (OpenSpec.ofChange handTurnsWrong)

/-- 'paydesklaw05.FrameParts': WHATEVER THE INPUT: true; the input reads as it did. -/
def framePartsSpec : ChangeSpec := { name := "frameParts", fn := fun _ => fun
  | [d1, d2] => { results := [.lit (.bool true)], args := [d1, d2] }
  | _ => none }
def framePartsRow : OpenClaim := { program := "ytkpabmhijpnchaa", sum := "317921506309fb67fd957be3c2b0c427523ea99da123dc8da45c1eaae72721b5", func := "paydesk/paydesklaw05.FrameParts", spec := "frameParts", apart := false }
def FramePartsSaid : Prop := framePartsRow.holds Try.pinned (OpenSpec.ofChange framePartsSpec)

/-- ITS FALSE NEIGHBOUR: 'it returns false'. Refute it at one input. -/
def framePartsWrong : ChangeSpec := { name := "frameParts", fn := fun _ => fun
  | [d1, d2] => { results := [.lit (.bool false)], args := [d1, d2] }
  | _ => none }
def FramePartsWrongFalsely : Prop := framePartsRow.holds Try.pinned (OpenSpec.ofChange framePartsWrong)

/- THE SECOND FORM. 'bulk': how many values and letters a reading holds, each counted each time it is reached (what is shared counts as often as it is met; a slice's spare places count too). A statement '..UptoSaid' is the law's where the arguments, and the package variables that the reading takes, are together of bulk at most 1048576: NARROWER than '..Said'. Prove '..Said' where nothing that the law and all that it calls make is longer than what came in: it says more and counts as full. Else prove '..UptoSaid'. A law counts once. -/
mutual
def uptoBulk {H : Type} : DataW H → Nat
  | .lit (.string bytes) => bytes.length + 1
  | .lit _ => 1
  | .nil => 1
  | .ptr d => uptoBulk d + 1
  | .slice elems spare => uptoBulkAll elems + uptoBulkAll spare + 1
  | .agg parts => uptoBulkAll parts + 1
  | .iface _ d => uptoBulk d + 1
  | .map entries => uptoBulkEntries entries + 1
  | .held _ => 1
def uptoBulkAll {H : Type} : List (DataW H) → Nat
  | [] => 0
  | d :: r => uptoBulk d + uptoBulkAll r
def uptoBulkEntries {H : Type} : List (Lit × DataW H) → Nat
  | [] => 0
  | x :: r => uptoBulkEntry x + uptoBulkEntries r
def uptoBulkEntry {H : Type} : Lit × DataW H → Nat
  | (.string bytes, d) => bytes.length + uptoBulk d + 1
  | (_, d) => uptoBulk d + 1
 end
def uptoSmall : (H : Type) → List (DataW H) → Bool := fun _ ds => decide (uptoBulkAll ds ≤ 1048576)
def OpenSpec.upto (s : _root_.Go.ChangeSpec) : _root_.Go.OpenSpec := { _root_.Go.OpenSpec.ofChange s with cond := some uptoSmall }

/-- 'paydesklaw19.WireRight', WHERE WHAT IT READS IS OF BULK AT MOST 1048576: true; the input reads as it did. -/
def wireRightUptoRow : OpenClaim := { program := "ytkpabmhijpnchaa", sum := "317921506309fb67fd957be3c2b0c427523ea99da123dc8da45c1eaae72721b5", func := "paydesk/paydesklaw19.WireRight", spec := "wireRight", apart := false, narrowed := true }
def WireRightUptoSaid : Prop := wireRightUptoRow.holds Try.pinned (OpenSpec.upto wireRightSpec)

/-- 'paydesklaw19.WireFrames', WHERE WHAT IT READS IS OF BULK AT MOST 1048576: true; the input reads as it did. -/
def wireFramesUptoRow : OpenClaim := { program := "ytkpabmhijpnchaa", sum := "317921506309fb67fd957be3c2b0c427523ea99da123dc8da45c1eaae72721b5", func := "paydesk/paydesklaw19.WireFrames", spec := "wireFrames", apart := false, narrowed := true }
def WireFramesUptoSaid : Prop := wireFramesUptoRow.holds Try.pinned (OpenSpec.upto wireFramesSpec)

/-- 'paydesklaw08.HandRight', WHERE WHAT IT READS IS OF BULK AT MOST 1048576: true; the input reads as it did. -/
def handRightUptoRow : OpenClaim := { program := "ytkpabmhijpnchaa", sum := "317921506309fb67fd957be3c2b0c427523ea99da123dc8da45c1eaae72721b5", func := "paydesk/paydesklaw08.HandRight", spec := "handRight", inPlace := ["math.archTrunc", "math.Float64bits", "math.Float64frombits"], apart := false, narrowed := true }
def HandRightUptoSaid : Prop := handRightUptoRow.holds Try.pinned (OpenSpec.upto handRightSpec)

/-- 'paydesklaw08.HandTurns', WHERE WHAT IT READS IS OF BULK AT MOST 1048576: true; the input reads as it did. -/
def handTurnsUptoRow : OpenClaim := { program := "ytkpabmhijpnchaa", sum := "317921506309fb67fd957be3c2b0c427523ea99da123dc8da45c1eaae72721b5", func := "paydesk/paydesklaw08.HandTurns", spec := "handTurns", inPlace := ["math.archTrunc", "math.Float64bits", "math.Float64frombits"], apart := false, narrowed := true }
def HandTurnsUptoSaid : Prop := handTurnsUptoRow.holds Try.pinned (OpenSpec.upto handTurnsSpec)

/-- 'paydesklaw05.FrameParts', WHERE WHAT IT READS IS OF BULK AT MOST 1048576: true; the input reads as it did. -/
def framePartsUptoRow : OpenClaim := { program := "ytkpabmhijpnchaa", sum := "317921506309fb67fd957be3c2b0c427523ea99da123dc8da45c1eaae72721b5", func := "paydesk/paydesklaw05.FrameParts", spec := "frameParts", apart := false, narrowed := true }
def FramePartsUptoSaid : Prop := framePartsUptoRow.holds Try.pinned (OpenSpec.upto framePartsSpec)

end Rows
end Go.Proofs.Ytkpabmhijpnchaa

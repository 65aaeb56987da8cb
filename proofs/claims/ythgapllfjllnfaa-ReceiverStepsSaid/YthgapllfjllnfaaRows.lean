/-
  No cell of these rows narrows 'for every input' (looked for: loops, veiled, ifaces, maps, wideKeys, modest, calm, conditions, laid).
  DERIVED. THE GIVEN ROWS OF THIS SEAT. 5 by the template 'for every input the law returns true; each argument reads behind the call as it read before'; 0 by the template 'total and deterministic' (their statements: YthgapllfjllnfaaTotals.lean).
  GIVEN WITH THE SEED: the statements are not yours to turn. If you find one false, say at which input.
  Laid BY PROGRAM, IN A SANDBOX (cutbox-rows.mjs): the forced cells as the released guide's own fill.sh prints them over the translation c2d4d27b1891eef9… (all of the seat's roots in one cut). By AI agents, Wed Nov 11 2026. No macro, syntax, notation, axiom, sorry.
-/
import Derived.Test.YthgapllfjllnfaaChecked
import GoSem.Claim
import GoSem.ClaimJoined
import GoSem.ClaimMapViews
import Derived.JoinedTies
import Derived.KernelRfl
namespace Go.Proofs.Ythgapllfjllnfaa
/- THE CELL 'sum', in the pinned program and in every row, IS THE sha256 OF THE DUMP (.gsa) THAT YthgapllfjllnfaaProg.lean LOADS. Nothing in Lean hashes anything: it is a label: what it is worth is what the hold of that sum in a sandbox is worth. -/
noncomputable def Try.pinned : Pinned := { name := "ythgapllfjllnfaa", sum := "c2d4d27b1891eef9470b4174d56b53df7e8ffdda23672f0044868a7d1295d97e", checked := Try.checked }
namespace Rows
def none {H : Type} : Left H := { results := [], args := [] }

/-- 'modscanlaw09.ReceiverSplit': WHATEVER THE INPUT: true; the input reads as it did. -/
def receiverSplitSpec : ChangeSpec := { name := "receiverSplit", fn := fun _ => fun
  | [d1, d2, d3, d4] => { results := [.lit (.bool true)], args := [d1, d2, d3, d4] }
  | _ => none }
def receiverSplitRow : OpenClaim := { program := "ythgapllfjllnfaa", sum := "c2d4d27b1891eef9470b4174d56b53df7e8ffdda23672f0044868a7d1295d97e", func := "modscan/modscanlaw09.ReceiverSplit", spec := "receiverSplit", apart := false }
def ReceiverSplitSaid : Prop := receiverSplitRow.holds Try.pinned (OpenSpec.ofChange receiverSplitSpec)

/-- ITS FALSE NEIGHBOUR: 'it returns false'. Refute it at one input. -/
def receiverSplitWrong : ChangeSpec := { name := "receiverSplit", fn := fun _ => fun
  | [d1, d2, d3, d4] => { results := [.lit (.bool false)], args := [d1, d2, d3, d4] }
  | _ => none }
def ReceiverSplitWrongFalsely : Prop := receiverSplitRow.holds Try.pinned (OpenSpec.ofChange receiverSplitWrong)

/-- 'modscanlaw09.ReceiverWhole': WHATEVER THE INPUT: true; the input reads as it did. -/
def receiverWholeSpec : ChangeSpec := { name := "receiverWhole", fn := fun _ => fun
  | [d1, d2, d3, d4] => { results := [.lit (.bool true)], args := [d1, d2, d3, d4] }
  | _ => none }
def receiverWholeRow : OpenClaim := { program := "ythgapllfjllnfaa", sum := "c2d4d27b1891eef9470b4174d56b53df7e8ffdda23672f0044868a7d1295d97e", func := "modscan/modscanlaw09.ReceiverWhole", spec := "receiverWhole", apart := false }
def ReceiverWholeSaid : Prop := receiverWholeRow.holds Try.pinned (OpenSpec.ofChange receiverWholeSpec)

/-- ITS FALSE NEIGHBOUR: 'it returns false'. Refute it at one input. -/
def receiverWholeWrong : ChangeSpec := { name := "receiverWhole", fn := fun _ => fun
  | [d1, d2, d3, d4] => { results := [.lit (.bool false)], args := [d1, d2, d3, d4] }
  | _ => none }
def ReceiverWholeWrongFalsely : Prop := receiverWholeRow.holds Try.pinned (OpenSpec.ofChange receiverWholeWrong)

/-- 'modscanlaw09.ReceiverLong': WHATEVER THE INPUT: true; the input reads as it did. -/
def receiverLongSpec : ChangeSpec := { name := "receiverLong", fn := fun _ => fun
  | [d1, d2] => { results := [.lit (.bool true)], args := [d1, d2] }
  | _ => none }
def receiverLongRow : OpenClaim := { program := "ythgapllfjllnfaa", sum := "c2d4d27b1891eef9470b4174d56b53df7e8ffdda23672f0044868a7d1295d97e", func := "modscan/modscanlaw09.ReceiverLong", spec := "receiverLong", apart := false }
def ReceiverLongSaid : Prop := receiverLongRow.holds Try.pinned (OpenSpec.ofChange receiverLongSpec)

/-- ITS FALSE NEIGHBOUR: 'it returns false'. Refute it at one input. -/
def receiverLongWrong : ChangeSpec := { name := "receiverLong", fn := fun _ => fun
  | [d1, d2] => { results := [.lit (.bool false)], args := [d1, d2] }
  | _ => none }
def ReceiverLongWrongFalsely : Prop := receiverLongRow.holds Try.pinned (OpenSpec.ofChange receiverLongWrong)

/-- 'modscanlaw09.ReceiverSteps': WHATEVER THE INPUT: true; the input reads as it did. -/
def receiverStepsSpec : ChangeSpec := { name := "receiverSteps", fn := fun _ => fun
  | [d1, d2, d3] => { results := [.lit (.bool true)], args := [d1, d2, d3] }
  | _ => none }
def receiverStepsRow : OpenClaim := { program := "ythgapllfjllnfaa", sum := "c2d4d27b1891eef9470b4174d56b53df7e8ffdda23672f0044868a7d1295d97e", func := "modscan/modscanlaw09.ReceiverSteps", spec := "receiverSteps", apart := false }
def ReceiverStepsSaid : Prop := receiverStepsRow.holds Try.pinned (OpenSpec.ofChange receiverStepsSpec)

/-- ITS FALSE NEIGHBOUR: 'it returns false'. Refute it at one input. -/
def receiverStepsWrong : ChangeSpec := { name := "receiverSteps", fn := fun _ => fun
  | [d1, d2, d3] => { results := [.lit (.bool false)], args := [d1, d2, d3] }
  | _ => none }
def ReceiverStepsWrongFalsely : Prop := receiverStepsRow.holds Try.pinned (OpenSpec.ofChange receiverStepsWrong)

/-- 'modscanlaw09.ReceiverErrors': WHATEVER THE INPUT: true; the input reads as it did. -/
def receiverErrorsSpec : ChangeSpec := { name := "receiverErrors", fn := fun _ => fun
  | [d1, d2, d3, d4] => { results := [.lit (.bool true)], args := [d1, d2, d3, d4] }
  | _ => none }
def receiverErrorsRow : OpenClaim := { program := "ythgapllfjllnfaa", sum := "c2d4d27b1891eef9470b4174d56b53df7e8ffdda23672f0044868a7d1295d97e", func := "modscan/modscanlaw09.ReceiverErrors", spec := "receiverErrors", apart := false }
def ReceiverErrorsSaid : Prop := receiverErrorsRow.holds Try.pinned (OpenSpec.ofChange receiverErrorsSpec)

/-- ITS FALSE NEIGHBOUR: 'it returns false'. Refute it at one input. -/
def receiverErrorsWrong : ChangeSpec := { name := "receiverErrors", fn := fun _ => fun
  | [d1, d2, d3, d4] => { results := [.lit (.bool false)], args := [d1, d2, d3, d4] }
  | _ => none }
def ReceiverErrorsWrongFalsely : Prop := receiverErrorsRow.holds Try.pinned (OpenSpec.ofChange receiverErrorsWrong)

/- THE SECOND FORM. 'bulk': how many values and letters a reading holds, each counted each time it is reached (what is shared counts as often as it is met; a slice's spare places count too). A statement '..UptoSaid' is the law's where the arguments, and the package variables that the reading takes, are together of bulk at most 1048576: NARROWER than '..Said'. Prove '..Said' where nothing that the law and all that it calls make is longer than what came in: it says more and counts as full. Else prove '..UptoSaid'. A law counts once. -/
mutual
def uptoBulk {H : Type} : DataW H → Nat
  | .lit (.string bytes) => bytes.length + 1
  | .lit _ => 1
  | .nil => 1
  | .ptr d => uptoBulk d + 1
  | .slice elems spare => uptoBulkAll elems + uptoBulkAll spare + 1
  | .agg parts => uptoBulkAll parts + 1
  | .iface _ d => uptoBulk d + 1
  | .map entries => uptoBulkEntries entries + 1
  | .held _ => 1
def uptoBulkAll {H : Type} : List (DataW H) → Nat
  | [] => 0
  | d :: r => uptoBulk d + uptoBulkAll r
def uptoBulkEntries {H : Type} : List (Lit × DataW H) → Nat
  | [] => 0
  | x :: r => uptoBulkEntry x + uptoBulkEntries r
def uptoBulkEntry {H : Type} : Lit × DataW H → Nat
  | (.string bytes, d) => bytes.length + uptoBulk d + 1
  | (_, d) => uptoBulk d + 1
 end
def uptoSmall : (H : Type) → List (DataW H) → Bool := fun _ ds => decide (uptoBulkAll ds ≤ 1048576)
def OpenSpec.upto (s : _root_.Go.ChangeSpec) : _root_.Go.OpenSpec := { _root_.Go.OpenSpec.ofChange s with cond := some uptoSmall }

/-- 'modscanlaw09.ReceiverSplit', WHERE WHAT IT READS IS OF BULK AT MOST 1048576: true; the input reads as it did. -/
def receiverSplitUptoRow : OpenClaim := { program := "ythgapllfjllnfaa", sum := "c2d4d27b1891eef9470b4174d56b53df7e8ffdda23672f0044868a7d1295d97e", func := "modscan/modscanlaw09.ReceiverSplit", spec := "receiverSplit", apart := false, narrowed := true }
def ReceiverSplitUptoSaid : Prop := receiverSplitUptoRow.holds Try.pinned (OpenSpec.upto receiverSplitSpec)

/-- 'modscanlaw09.ReceiverWhole', WHERE WHAT IT READS IS OF BULK AT MOST 1048576: true; the input reads as it did. -/
def receiverWholeUptoRow : OpenClaim := { program := "ythgapllfjllnfaa", sum := "c2d4d27b1891eef9470b4174d56b53df7e8ffdda23672f0044868a7d1295d97e", func := "modscan/modscanlaw09.ReceiverWhole", spec := "receiverWhole", apart := false, narrowed := true }
def ReceiverWholeUptoSaid : Prop := receiverWholeUptoRow.holds Try.pinned (OpenSpec.upto receiverWholeSpec)

/-- 'modscanlaw09.ReceiverLong', WHERE WHAT IT READS IS OF BULK AT MOST 1048576: true; the input reads as it did. -/
def receiverLongUptoRow : OpenClaim := { program := "ythgapllfjllnfaa", sum := "c2d4d27b1891eef9470b4174d56b53df7e8ffdda23672f0044868a7d1295d97e", func := "modscan/modscanlaw09.ReceiverLong", spec := "receiverLong", apart := false, narrowed := true }
def ReceiverLongUptoSaid : Prop := receiverLongUptoRow.holds Try.pinned (OpenSpec.upto receiverLongSpec)

/-- 'modscanlaw09.ReceiverSteps', WHERE WHAT IT READS IS OF BULK AT MOST 1048576: true; the input reads as it did. -/
def receiverStepsUptoRow : OpenClaim := { program := "ythgapllfjllnfaa", sum := "c2d4d27b1891eef9470b4174d56b53df7e8ffdda23672f0044868a7d1295d97e", func := "modscan/modscanlaw09.ReceiverSteps", spec := "receiverSteps", apart := false, narrowed := true }
def ReceiverStepsUptoSaid : Prop := receiverStepsUptoRow.holds Try.pinned (OpenSpec.upto receiverStepsSpec)

/-- 'modscanlaw09.ReceiverErrors', WHERE WHAT IT READS IS OF BULK AT MOST 1048576: true; the input reads as it did. -/
def receiverErrorsUptoRow : OpenClaim := { program := "ythgapllfjllnfaa", sum := "c2d4d27b1891eef9470b4174d56b53df7e8ffdda23672f0044868a7d1295d97e", func := "modscan/modscanlaw09.ReceiverErrors", spec := "receiverErrors", apart := false, narrowed := true }
def ReceiverErrorsUptoSaid : Prop := receiverErrorsUptoRow.holds Try.pinned (OpenSpec.upto receiverErrorsSpec)

end Rows
end Go.Proofs.Ythgapllfjllnfaa

/-
  No cell of these rows narrows 'for every input' (looked for: loops, veiled, ifaces, maps, wideKeys, modest, calm, conditions, laid).
  DERIVED. THE GIVEN ROWS OF THIS SEAT. 4 by the template 'for every input the law returns true; each argument reads behind the call as it read before'; 0 by the template 'total and deterministic' (their statements: YtipcnpnfdoainaaTotals.lean).
  GIVEN WITH THE SEED: the statements are not yours to turn. If you find one false, say at which input.
  Laid BY PROGRAM, IN A SANDBOX (cutbox-rows.mjs): the forced cells as the released guide's own fill.sh prints them over the translation 641748ba732f41d9… (all of the seat's roots in one cut). By AI agents, Wed Nov 11 2026. No macro, syntax, notation, axiom, sorry.
-/
import Derived.Test.YtipcnpnfdoainaaChecked
import GoSem.Claim
import GoSem.ClaimJoined
import GoSem.ClaimMapViews
import Derived.JoinedTies
import Derived.KernelRfl
namespace Go.Proofs.Ytipcnpnfdoainaa
/- THE CELL 'sum', in the pinned program and in every row, IS THE sha256 OF THE DUMP (.gsa) THAT YtipcnpnfdoainaaProg.lean LOADS. Nothing in Lean hashes anything: it is a label: what it is worth is what the hold of that sum in a sandbox is worth. -/
noncomputable def Try.pinned : Pinned := { name := "ytipcnpnfdoainaa", sum := "641748ba732f41d991f804aa586be115e2b35484f00d3ca4ed3741c135ba8bc3", checked := Try.checked }
namespace Rows
def none {H : Type} : Left H := { results := [], args := [] }

/-- 'modscanlaw24.MaxqSteps': WHATEVER THE INPUT: true; the input reads as it did. -/
def maxqStepsSpec : ChangeSpec := { name := "maxqSteps", fn := fun _ => fun
  | [d1, d2] => { results := [.lit (.bool true)], args := [d1, d2] }
  | _ => none }
def maxqStepsRow : OpenClaim := { program := "ytipcnpnfdoainaa", sum := "641748ba732f41d991f804aa586be115e2b35484f00d3ca4ed3741c135ba8bc3", func := "modscan/modscanlaw24.MaxqSteps", spec := "maxqSteps", apart := false }
def MaxqStepsSaid : Prop := maxqStepsRow.holds Try.pinned (OpenSpec.ofChange maxqStepsSpec)

/-- ITS FALSE NEIGHBOUR: 'it returns false'. Refute it at one input. -/
def maxqStepsWrong : ChangeSpec := { name := "maxqSteps", fn := fun _ => fun
  | [d1, d2] => { results := [.lit (.bool false)], args := [d1, d2] }
  | _ => none }
def MaxqStepsWrongFalsely : Prop := maxqStepsRow.holds Try.pinned (OpenSpec.ofChange maxqStepsWrong)

/-- 'modscanlaw24.MaxqSlave': WHATEVER THE INPUT: true; the input reads as it did. -/
def maxqSlaveSpec : ChangeSpec := { name := "maxqSlave", fn := fun _ => fun
  | [d1, d2, d3] => { results := [.lit (.bool true)], args := [d1, d2, d3] }
  | _ => none }
def maxqSlaveRow : OpenClaim := { program := "ytipcnpnfdoainaa", sum := "641748ba732f41d991f804aa586be115e2b35484f00d3ca4ed3741c135ba8bc3", func := "modscan/modscanlaw24.MaxqSlave", spec := "maxqSlave", apart := false }
def MaxqSlaveSaid : Prop := maxqSlaveRow.holds Try.pinned (OpenSpec.ofChange maxqSlaveSpec)

/-- ITS FALSE NEIGHBOUR: 'it returns false'. Refute it at one input. -/
def maxqSlaveWrong : ChangeSpec := { name := "maxqSlave", fn := fun _ => fun
  | [d1, d2, d3] => { results := [.lit (.bool false)], args := [d1, d2, d3] }
  | _ => none }
def MaxqSlaveWrongFalsely : Prop := maxqSlaveRow.holds Try.pinned (OpenSpec.ofChange maxqSlaveWrong)

/-- 'modscanlaw24.MaxqOpen': WHATEVER THE INPUT: true; the input reads as it did. -/
def maxqOpenSpec : ChangeSpec := { name := "maxqOpen", fn := fun _ => fun
  | [d1, d2, d3, d4] => { results := [.lit (.bool true)], args := [d1, d2, d3, d4] }
  | _ => none }
def maxqOpenRow : OpenClaim := { program := "ytipcnpnfdoainaa", sum := "641748ba732f41d991f804aa586be115e2b35484f00d3ca4ed3741c135ba8bc3", func := "modscan/modscanlaw24.MaxqOpen", spec := "maxqOpen", apart := false }
def MaxqOpenSaid : Prop := maxqOpenRow.holds Try.pinned (OpenSpec.ofChange maxqOpenSpec)

/-- ITS FALSE NEIGHBOUR: 'it returns false'. Refute it at one input. -/
def maxqOpenWrong : ChangeSpec := { name := "maxqOpen", fn := fun _ => fun
  | [d1, d2, d3, d4] => { results := [.lit (.bool false)], args := [d1, d2, d3, d4] }
  | _ => none }
def MaxqOpenWrongFalsely : Prop := maxqOpenRow.holds Try.pinned (OpenSpec.ofChange maxqOpenWrong)

/-- 'modscanlaw24.MaxqFinds': WHATEVER THE INPUT: true; the input reads as it did. -/
def maxqFindsSpec : ChangeSpec := { name := "maxqFinds", fn := fun _ => fun
  | [d1, d2, d3] => { results := [.lit (.bool true)], args := [d1, d2, d3] }
  | _ => none }
def maxqFindsRow : OpenClaim := { program := "ytipcnpnfdoainaa", sum := "641748ba732f41d991f804aa586be115e2b35484f00d3ca4ed3741c135ba8bc3", func := "modscan/modscanlaw24.MaxqFinds", spec := "maxqFinds", apart := false }
def MaxqFindsSaid : Prop := maxqFindsRow.holds Try.pinned (OpenSpec.ofChange maxqFindsSpec)

/-- ITS FALSE NEIGHBOUR: 'it returns false'. Refute it at one input. -/
def maxqFindsWrong : ChangeSpec := { name := "maxqFinds", fn := fun _ => fun
  | [d1, d2, d3] => { results := [.lit (.bool false)], args := [d1, d2, d3] }
  | _ => none }
def MaxqFindsWrongFalsely : Prop := maxqFindsRow.holds Try.pinned (OpenSpec.ofChange maxqFindsWrong)

/- THE SECOND FORM. 'bulk': how many values and letters a reading holds, each counted each time it is reached (what is shared counts as often as it is met; a slice's spare places count too). A statement '..UptoSaid' is the law's where the arguments, and the package variables that the reading takes, are together of bulk at most 1048576: NARROWER than '..Said'. Prove '..Said' where nothing that the law and all that it calls make is longer than what came in: it says more and counts as full. Else prove '..UptoSaid'. A law counts once. -/
mutual
def uptoBulk {H : Type} : DataW H → Nat
  | .lit (.string bytes) => bytes.length + 1
  | .lit _ => 1
  | .nil => 1
  | .ptr d => uptoBulk d + 1
  | .slice elems spare => uptoBulkAll elems + uptoBulkAll spare + 1
  | .agg parts => uptoBulkAll parts + 1
  | .iface _ d => uptoBulk d + 1
  | .map entries => uptoBulkEntries entries + 1
  | .held _ => 1
def uptoBulkAll {H : Type} : List (DataW H) → Nat
  | [] => 0
  | d :: r => uptoBulk d + uptoBulkAll r
def uptoBulkEntries {H : Type} : List (Lit × DataW H) → Nat
  | [] => 0
  | x :: r => uptoBulkEntry x + uptoBulkEntries r
def uptoBulkEntry {H : Type} : Lit × DataW H → Nat
  | (.string bytes, d) => bytes.length + uptoBulk d + 1
  | (_, d) => uptoBulk d + 1
 end
def uptoSmall : (H : Type) → List (DataW H) → Bool := fun _ ds => decide (uptoBulkAll ds ≤ 1048576)
def OpenSpec.upto (s : _root_.Go.ChangeSpec) : _root_.Go.OpenSpec := { _root_.Go.OpenSpec.ofChange s with cond := some uptoSmall }

/-- 'modscanlaw24.MaxqSteps', WHERE WHAT IT READS IS OF BULK AT MOST 1048576: true; the input reads as it did. -/
def maxqStepsUptoRow : OpenClaim := { program := "ytipcnpnfdoainaa", sum := "641748ba732f41d991f804aa586be115e2b35484f00d3ca4ed3741c135ba8bc3", func := "modscan/modscanlaw24.MaxqSteps", spec := "maxqSteps", apart := false, narrowed := true }
def MaxqStepsUptoSaid : Prop := maxqStepsUptoRow.holds Try.pinned (OpenSpec.upto maxqStepsSpec)

/-- 'modscanlaw24.MaxqSlave', WHERE WHAT IT READS IS OF BULK AT MOST 1048576: true; the input reads as it did. -/
def maxqSlaveUptoRow : OpenClaim := { program := "ytipcnpnfdoainaa", sum := "641748ba732f41d991f804aa586be115e2b35484f00d3ca4ed3741c135ba8bc3", func := "modscan/modscanlaw24.MaxqSlave", spec := "maxqSlave", apart := false, narrowed := true }
def MaxqSlaveUptoSaid : Prop := maxqSlaveUptoRow.holds Try.pinned (OpenSpec.upto maxqSlaveSpec)

/-- 'modscanlaw24.MaxqOpen', WHERE WHAT IT READS IS OF BULK AT MOST 1048576: true; the input reads as it did. -/
def maxqOpenUptoRow : OpenClaim := { program := "ytipcnpnfdoainaa", sum := "641748ba732f41d991f804aa586be115e2b35484f00d3ca4ed3741c135ba8bc3", func := "modscan/modscanlaw24.MaxqOpen", spec := "maxqOpen", apart := false, narrowed := true }
def MaxqOpenUptoSaid : Prop := maxqOpenUptoRow.holds Try.pinned (OpenSpec.upto maxqOpenSpec)

/-- 'modscanlaw24.MaxqFinds', WHERE WHAT IT READS IS OF BULK AT MOST 1048576: true; the input reads as it did. -/
def maxqFindsUptoRow : OpenClaim := { program := "ytipcnpnfdoainaa", sum := "641748ba732f41d991f804aa586be115e2b35484f00d3ca4ed3741c135ba8bc3", func := "modscan/modscanlaw24.MaxqFinds", spec := "maxqFinds", apart := false, narrowed := true }
def MaxqFindsUptoSaid : Prop := maxqFindsUptoRow.holds Try.pinned (OpenSpec.upto maxqFindsSpec)

end Rows
end Go.Proofs.Ytipcnpnfdoainaa

/-
  No cell of these rows narrows 'for every input' (looked for: loops, veiled, ifaces, maps, wideKeys, modest, calm, conditions, laid).
  DERIVED. THE GIVEN ROWS OF THIS SEAT. 4 by the template 'for every input the law returns true; each argument reads behind the call as it read before'; 0 by the template 'total and deterministic' (their statements: YtpbmolijoadonaaTotals.lean).
  GIVEN WITH THE SEED: the statements are not yours to turn. If you find one false, say at which input.
  Laid BY PROGRAM, IN A SANDBOX (cutbox-rows.mjs): the forced cells as the released guide's own fill.sh prints them over the translation ea9430c6ad3d0da9… (all of the seat's roots in one cut). By AI agents, Wed Nov 11 2026. No macro, syntax, notation, axiom, sorry.
-/
import Derived.Test.YtpbmolijoadonaaChecked
import GoSem.Claim
import GoSem.ClaimJoined
import GoSem.ClaimMapViews
import Derived.JoinedTies
import Derived.KernelRfl
namespace Go.Proofs.Ytpbmolijoadonaa
/- THE CELL 'sum', in the pinned program and in every row, IS THE sha256 OF THE DUMP (.gsa) THAT YtpbmolijoadonaaProg.lean LOADS. Nothing in Lean hashes anything: it is a label: what it is worth is what the hold of that sum in a sandbox is worth. -/
noncomputable def Try.pinned : Pinned := { name := "ytpbmolijoadonaa", sum := "ea9430c6ad3d0da9f9ee5f4eaf7855589286c2735355067d9e8c67e5cd76f14a", checked := Try.checked }
namespace Rows
def none {H : Type} : Left H := { results := [], args := [] }

/-- 'modscanlaw22.IdentSteps': WHATEVER THE INPUT: true; the input reads as it did. -/
def identStepsSpec : ChangeSpec := { name := "identSteps", fn := fun _ => fun
  | [d] => { results := [.lit (.bool true)], args := [d] }
  | _ => none }
def identStepsRow : OpenClaim := { program := "ytpbmolijoadonaa", sum := "ea9430c6ad3d0da9f9ee5f4eaf7855589286c2735355067d9e8c67e5cd76f14a", func := "modscan/modscanlaw22.IdentSteps", spec := "identSteps", apart := false }
def IdentStepsSaid : Prop := identStepsRow.holds Try.pinned (OpenSpec.ofChange identStepsSpec)

/-- ITS FALSE NEIGHBOUR: 'it returns false'. Refute it at one input. -/
def identStepsWrong : ChangeSpec := { name := "identSteps", fn := fun _ => fun
  | [d] => { results := [.lit (.bool false)], args := [d] }
  | _ => none }
def IdentStepsWrongFalsely : Prop := identStepsRow.holds Try.pinned (OpenSpec.ofChange identStepsWrong)

/-- 'modscanlaw22.IdentEnds': WHATEVER THE INPUT: true; the input reads as it did. -/
def identEndsSpec : ChangeSpec := { name := "identEnds", fn := fun _ => fun
  | [d1, d2, d3] => { results := [.lit (.bool true)], args := [d1, d2, d3] }
  | _ => none }
def identEndsRow : OpenClaim := { program := "ytpbmolijoadonaa", sum := "ea9430c6ad3d0da9f9ee5f4eaf7855589286c2735355067d9e8c67e5cd76f14a", func := "modscan/modscanlaw22.IdentEnds", spec := "identEnds", apart := false }
def IdentEndsSaid : Prop := identEndsRow.holds Try.pinned (OpenSpec.ofChange identEndsSpec)

/-- ITS FALSE NEIGHBOUR: 'it returns false'. Refute it at one input. -/
def identEndsWrong : ChangeSpec := { name := "identEnds", fn := fun _ => fun
  | [d1, d2, d3] => { results := [.lit (.bool false)], args := [d1, d2, d3] }
  | _ => none }
def IdentEndsWrongFalsely : Prop := identEndsRow.holds Try.pinned (OpenSpec.ofChange identEndsWrong)

/-- 'modscanlaw22.IdentClosed': WHATEVER THE INPUT: true; the input reads as it did. -/
def identClosedSpec : ChangeSpec := { name := "identClosed", fn := fun _ => fun
  | [d] => { results := [.lit (.bool true)], args := [d] }
  | _ => none }
def identClosedRow : OpenClaim := { program := "ytpbmolijoadonaa", sum := "ea9430c6ad3d0da9f9ee5f4eaf7855589286c2735355067d9e8c67e5cd76f14a", func := "modscan/modscanlaw22.IdentClosed", spec := "identClosed", apart := false }
def IdentClosedSaid : Prop := identClosedRow.holds Try.pinned (OpenSpec.ofChange identClosedSpec)

/-- ITS FALSE NEIGHBOUR: 'it returns false'. Refute it at one input. -/
def identClosedWrong : ChangeSpec := { name := "identClosed", fn := fun _ => fun
  | [d] => { results := [.lit (.bool false)], args := [d] }
  | _ => none }
def IdentClosedWrongFalsely : Prop := identClosedRow.holds Try.pinned (OpenSpec.ofChange identClosedWrong)

/-- 'modscanlaw22.IdentSlave': WHATEVER THE INPUT: true; the input reads as it did. -/
def identSlaveSpec : ChangeSpec := { name := "identSlave", fn := fun _ => fun
  | [d1, d2] => { results := [.lit (.bool true)], args := [d1, d2] }
  | _ => none }
def identSlaveRow : OpenClaim := { program := "ytpbmolijoadonaa", sum := "ea9430c6ad3d0da9f9ee5f4eaf7855589286c2735355067d9e8c67e5cd76f14a", func := "modscan/modscanlaw22.IdentSlave", spec := "identSlave", apart := false }
def IdentSlaveSaid : Prop := identSlaveRow.holds Try.pinned (OpenSpec.ofChange identSlaveSpec)

/-- ITS FALSE NEIGHBOUR: 'it returns false'. Refute it at one input. -/
def identSlaveWrong : ChangeSpec := { name := "identSlave", fn := fun _ => fun
  | [d1, d2] => { results := [.lit (.bool false)], args := [d1, d2] }
  | _ => none }
def IdentSlaveWrongFalsely : Prop := identSlaveRow.holds Try.pinned (OpenSpec.ofChange identSlaveWrong)

/- THE SECOND FORM. 'bulk': how many values and letters a reading holds, each counted each time it is reached (what is shared counts as often as it is met; a slice's spare places count too). A statement '..UptoSaid' is the law's where the arguments, and the package variables that the reading takes, are together of bulk at most 1048576: NARROWER than '..Said'. Prove '..Said' where nothing that the law and all that it calls make is longer than what came in: it says more and counts as full. Else prove '..UptoSaid'. A law counts once. -/
mutual
def uptoBulk {H : Type} : DataW H → Nat
  | .lit (.string bytes) => bytes.length + 1
  | .lit _ => 1
  | .nil => 1
  | .ptr d => uptoBulk d + 1
  | .slice elems spare => uptoBulkAll elems + uptoBulkAll spare + 1
  | .agg parts => uptoBulkAll parts + 1
  | .iface _ d => uptoBulk d + 1
  | .map entries => uptoBulkEntries entries + 1
  | .held _ => 1
def uptoBulkAll {H : Type} : List (DataW H) → Nat
  | [] => 0
  | d :: r => uptoBulk d + uptoBulkAll r
def uptoBulkEntries {H : Type} : List (Lit × DataW H) → Nat
  | [] => 0
  | x :: r => uptoBulkEntry x + uptoBulkEntries r
def uptoBulkEntry {H : Type} : Lit × DataW H → Nat
  | (.string bytes, d) => bytes.length + uptoBulk d + 1
  | (_, d) => uptoBulk d + 1
 end
def uptoSmall : (H : Type) → List (DataW H) → Bool := fun _ ds => decide (uptoBulkAll ds ≤ 1048576)
def OpenSpec.upto (s : _root_.Go.ChangeSpec) : _root_.Go.OpenSpec := { _root_.Go.OpenSpec.ofChange s with cond := some uptoSmall }

/-- 'modscanlaw22.IdentSteps', WHERE WHAT IT READS IS OF BULK AT MOST 1048576: true; the input reads as it did. -/
def identStepsUptoRow : OpenClaim := { program := "ytpbmolijoadonaa", sum := "ea9430c6ad3d0da9f9ee5f4eaf7855589286c2735355067d9e8c67e5cd76f14a", func := "modscan/modscanlaw22.IdentSteps", spec := "identSteps", apart := false, narrowed := true }
def IdentStepsUptoSaid : Prop := identStepsUptoRow.holds Try.pinned (OpenSpec.upto identStepsSpec)

/-- 'modscanlaw22.IdentEnds', WHERE WHAT IT READS IS OF BULK AT MOST 1048576: true; the input reads as it did. -/
def identEndsUptoRow : OpenClaim := { program := "ytpbmolijoadonaa", sum := "ea9430c6ad3d0da9f9ee5f4eaf7855589286c2735355067d9e8c67e5cd76f14a", func := "modscan/modscanlaw22.IdentEnds", spec := "identEnds", apart := false, narrowed := true }
def IdentEndsUptoSaid : Prop := identEndsUptoRow.holds Try.pinned (OpenSpec.upto identEndsSpec)

/-- 'modscanlaw22.IdentClosed', WHERE WHAT IT READS IS OF BULK AT MOST 1048576: true; the input reads as it did. -/
def identClosedUptoRow : OpenClaim := { program := "ytpbmolijoadonaa", sum := "ea9430c6ad3d0da9f9ee5f4eaf7855589286c2735355067d9e8c67e5cd76f14a", func := "modscan/modscanlaw22.IdentClosed", spec := "identClosed", apart := false, narrowed := true }
def IdentClosedUptoSaid : Prop := identClosedUptoRow.holds Try.pinned (OpenSpec.upto identClosedSpec)

/-- 'modscanlaw22.IdentSlave', WHERE WHAT IT READS IS OF BULK AT MOST 1048576: true; the input reads as it did. -/
def identSlaveUptoRow : OpenClaim := { program := "ytpbmolijoadonaa", sum := "ea9430c6ad3d0da9f9ee5f4eaf7855589286c2735355067d9e8c67e5cd76f14a", func := "modscan/modscanlaw22.IdentSlave", spec := "identSlave", apart := false, narrowed := true }
def IdentSlaveUptoSaid : Prop := identSlaveUptoRow.holds Try.pinned (OpenSpec.upto identSlaveSpec)

end Rows
end Go.Proofs.Ytpbmolijoadonaa

/-
  No cell of these rows narrows 'for every input' (looked for: loops, veiled, ifaces, maps, wideKeys, modest, calm, conditions, laid).
  DERIVED. THE GIVEN ROWS OF THIS SEAT. 5 by the template 'for every input the law returns true; each argument reads behind the call as it read before'; 0 by the template 'total and deterministic' (their statements: YtdkkfahnkenplaaTotals.lean).
  GIVEN WITH THE SEED: the statements are not yours to turn. If you find one false, say at which input.
  Laid BY PROGRAM, IN A SANDBOX (cutbox-rows.mjs): the forced cells as the released guide's own fill.sh prints them over the translation 35f3b5a76d32513e… (all of the seat's roots in one cut). By AI agents, Wed Nov 11 2026. No macro, syntax, notation, axiom, sorry.
-/
import Derived.Test.YtdkkfahnkenplaaChecked
import GoSem.Claim
import GoSem.ClaimJoined
import GoSem.ClaimMapViews
import Derived.JoinedTies
import Derived.KernelRfl
namespace Go.Proofs.Ytdkkfahnkenplaa
/- THE CELL 'sum', in the pinned program and in every row, IS THE sha256 OF THE DUMP (.gsa) THAT YtdkkfahnkenplaaProg.lean LOADS. Nothing in Lean hashes anything: it is a label: what it is worth is what the hold of that sum in a sandbox is worth. -/
noncomputable def Try.pinned : Pinned := { name := "ytdkkfahnkenplaa", sum := "35f3b5a76d32513e47dfd20f36c3c45fe71e547b665428499fd8e51954445927", checked := Try.checked }
namespace Rows
def none {H : Type} : Left H := { results := [], args := [] }

/-- 'modscanlaw25.MapSteps': WHATEVER THE INPUT: true; the input reads as it did. -/
def mapStepsSpec : ChangeSpec := { name := "mapSteps", fn := fun _ => fun
  | [d1, d2, d3, d4] => { results := [.lit (.bool true)], args := [d1, d2, d3, d4] }
  | _ => none }
def mapStepsRow : OpenClaim := { program := "ytdkkfahnkenplaa", sum := "35f3b5a76d32513e47dfd20f36c3c45fe71e547b665428499fd8e51954445927", func := "modscan/modscanlaw25.MapSteps", spec := "mapSteps", apart := false }
def MapStepsSaid : Prop := mapStepsRow.holds Try.pinned (OpenSpec.ofChange mapStepsSpec)

/-- ITS FALSE NEIGHBOUR: 'it returns false'. Refute it at one input. -/
def mapStepsWrong : ChangeSpec := { name := "mapSteps", fn := fun _ => fun
  | [d1, d2, d3, d4] => { results := [.lit (.bool false)], args := [d1, d2, d3, d4] }
  | _ => none }
def MapStepsWrongFalsely : Prop := mapStepsRow.holds Try.pinned (OpenSpec.ofChange mapStepsWrong)

/-- 'modscanlaw25.MapOpen': WHATEVER THE INPUT: true; the input reads as it did. -/
def mapOpenSpec : ChangeSpec := { name := "mapOpen", fn := fun _ => fun
  | [d1, d2, d3, d4, d5] => { results := [.lit (.bool true)], args := [d1, d2, d3, d4, d5] }
  | _ => none }
def mapOpenRow : OpenClaim := { program := "ytdkkfahnkenplaa", sum := "35f3b5a76d32513e47dfd20f36c3c45fe71e547b665428499fd8e51954445927", func := "modscan/modscanlaw25.MapOpen", spec := "mapOpen", apart := false }
def MapOpenSaid : Prop := mapOpenRow.holds Try.pinned (OpenSpec.ofChange mapOpenSpec)

/-- ITS FALSE NEIGHBOUR: 'it returns false'. Refute it at one input. -/
def mapOpenWrong : ChangeSpec := { name := "mapOpen", fn := fun _ => fun
  | [d1, d2, d3, d4, d5] => { results := [.lit (.bool false)], args := [d1, d2, d3, d4, d5] }
  | _ => none }
def MapOpenWrongFalsely : Prop := mapOpenRow.holds Try.pinned (OpenSpec.ofChange mapOpenWrong)

/-- 'modscanlaw25.MapNone': WHATEVER THE INPUT: true; the input reads as it did. -/
def mapNoneSpec : ChangeSpec := { name := "mapNone", fn := fun _ => fun
  | [] => { results := [.lit (.bool true)], args := [] }
  | _ => none }
def mapNoneRow : OpenClaim := { program := "ytdkkfahnkenplaa", sum := "35f3b5a76d32513e47dfd20f36c3c45fe71e547b665428499fd8e51954445927", func := "modscan/modscanlaw25.MapNone", spec := "mapNone", apart := false }
def MapNoneSaid : Prop := mapNoneRow.holds Try.pinned (OpenSpec.ofChange mapNoneSpec)

/-- ITS FALSE NEIGHBOUR: 'it returns false'. Refute it at one input. -/
def mapNoneWrong : ChangeSpec := { name := "mapNone", fn := fun _ => fun
  | [] => { results := [.lit (.bool false)], args := [] }
  | _ => none }
def MapNoneWrongFalsely : Prop := mapNoneRow.holds Try.pinned (OpenSpec.ofChange mapNoneWrong)

/-- 'modscanlaw25.MapBudget': WHATEVER THE INPUT: true; the input reads as it did. -/
def mapBudgetSpec : ChangeSpec := { name := "mapBudget", fn := fun _ => fun
  | [d1, d2, d3, d4, d5] => { results := [.lit (.bool true)], args := [d1, d2, d3, d4, d5] }
  | _ => none }
def mapBudgetRow : OpenClaim := { program := "ytdkkfahnkenplaa", sum := "35f3b5a76d32513e47dfd20f36c3c45fe71e547b665428499fd8e51954445927", func := "modscan/modscanlaw25.MapBudget", spec := "mapBudget", apart := false }
def MapBudgetSaid : Prop := mapBudgetRow.holds Try.pinned (OpenSpec.ofChange mapBudgetSpec)

/-- ITS FALSE NEIGHBOUR: 'it returns false'. Refute it at one input. -/
def mapBudgetWrong : ChangeSpec := { name := "mapBudget", fn := fun _ => fun
  | [d1, d2, d3, d4, d5] => { results := [.lit (.bool false)], args := [d1, d2, d3, d4, d5] }
  | _ => none }
def MapBudgetWrongFalsely : Prop := mapBudgetRow.holds Try.pinned (OpenSpec.ofChange mapBudgetWrong)

/-- 'modscanlaw25.MapTruth': WHATEVER THE INPUT: true; the input reads as it did. -/
def mapTruthSpec : ChangeSpec := { name := "mapTruth", fn := fun _ => fun
  | [d1, d2, d3, d4] => { results := [.lit (.bool true)], args := [d1, d2, d3, d4] }
  | _ => none }
def mapTruthRow : OpenClaim := { program := "ytdkkfahnkenplaa", sum := "35f3b5a76d32513e47dfd20f36c3c45fe71e547b665428499fd8e51954445927", func := "modscan/modscanlaw25.MapTruth", spec := "mapTruth", apart := false }
def MapTruthSaid : Prop := mapTruthRow.holds Try.pinned (OpenSpec.ofChange mapTruthSpec)

/-- ITS FALSE NEIGHBOUR: 'it returns false'. Refute it at one input. -/
def mapTruthWrong : ChangeSpec := { name := "mapTruth", fn := fun _ => fun
  | [d1, d2, d3, d4] => { results := [.lit (.bool false)], args := [d1, d2, d3, d4] }
  | _ => none }
def MapTruthWrongFalsely : Prop := mapTruthRow.holds Try.pinned (OpenSpec.ofChange mapTruthWrong)

/- THE SECOND FORM. 'bulk': how many values and letters a reading holds, each counted each time it is reached (what is shared counts as often as it is met; a slice's spare places count too). A statement '..UptoSaid' is the law's where the arguments, and the package variables that the reading takes, are together of bulk at most 1048576: NARROWER than '..Said'. Prove '..Said' where nothing that the law and all that it calls make is longer than what came in: it says more and counts as full. Else prove '..UptoSaid'. A law counts once. -/
mutual
def uptoBulk {H : Type} : DataW H → Nat
  | .lit (.string bytes) => bytes.length + 1
  | .lit _ => 1
  | .nil => 1
  | .ptr d => uptoBulk d + 1
  | .slice elems spare => uptoBulkAll elems + uptoBulkAll spare + 1
  | .agg parts => uptoBulkAll parts + 1
  | .iface _ d => uptoBulk d + 1
  | .map entries => uptoBulkEntries entries + 1
  | .held _ => 1
def uptoBulkAll {H : Type} : List (DataW H) → Nat
  | [] => 0
  | d :: r => uptoBulk d + uptoBulkAll r
def uptoBulkEntries {H : Type} : List (Lit × DataW H) → Nat
  | [] => 0
  | x :: r => uptoBulkEntry x + uptoBulkEntries r
def uptoBulkEntry {H : Type} : Lit × DataW H → Nat
  | (.string bytes, d) => bytes.length + uptoBulk d + 1
  | (_, d) => uptoBulk d + 1
 end
def uptoSmall : (H : Type) → List (DataW H) → Bool := fun _ ds => decide (uptoBulkAll ds ≤ 1048576)
def OpenSpec.upto (s : _root_.Go.ChangeSpec) : _root_.Go.OpenSpec := { _root_.Go.OpenSpec.ofChange s with cond := some uptoSmall }

/-- 'modscanlaw25.MapSteps', WHERE WHAT IT READS IS OF BULK AT MOST 1048576: true; the input reads as it did. -/
def mapStepsUptoRow : OpenClaim := { program := "ytdkkfahnkenplaa", sum := "35f3b5a76d32513e47dfd20f36c3c45fe71e547b665428499fd8e51954445927", func := "modscan/modscanlaw25.MapSteps", spec := "mapSteps", apart := false, narrowed := true }
def MapStepsUptoSaid : Prop := mapStepsUptoRow.holds Try.pinned (OpenSpec.upto mapStepsSpec)

/-- 'modscanlaw25.MapOpen', WHERE WHAT IT READS IS OF BULK AT MOST 1048576: true; the input reads as it did. -/
def mapOpenUptoRow : OpenClaim := { program := "ytdkkfahnkenplaa", sum := "35f3b5a76d32513e47dfd20f36c3c45fe71e547b665428499fd8e51954445927", func := "modscan/modscanlaw25.MapOpen", spec := "mapOpen", apart := false, narrowed := true }
def MapOpenUptoSaid : Prop := mapOpenUptoRow.holds Try.pinned (OpenSpec.upto mapOpenSpec)

/-- 'modscanlaw25.MapNone', WHERE WHAT IT READS IS OF BULK AT MOST 1048576: true; the input reads as it did. -/
def mapNoneUptoRow : OpenClaim := { program := "ytdkkfahnkenplaa", sum := "35f3b5a76d32513e47dfd20f36c3c45fe71e547b665428499fd8e51954445927", func := "modscan/modscanlaw25.MapNone", spec := "mapNone", apart := false, narrowed := true }
def MapNoneUptoSaid : Prop := mapNoneUptoRow.holds Try.pinned (OpenSpec.upto mapNoneSpec)

/-- 'modscanlaw25.MapBudget', WHERE WHAT IT READS IS OF BULK AT MOST 1048576: true; the input reads as it did. -/
def mapBudgetUptoRow : OpenClaim := { program := "ytdkkfahnkenplaa", sum := "35f3b5a76d32513e47dfd20f36c3c45fe71e547b665428499fd8e51954445927", func := "modscan/modscanlaw25.MapBudget", spec := "mapBudget", apart := false, narrowed := true }
def MapBudgetUptoSaid : Prop := mapBudgetUptoRow.holds Try.pinned (OpenSpec.upto mapBudgetSpec)

/-- 'modscanlaw25.MapTruth', WHERE WHAT IT READS IS OF BULK AT MOST 1048576: true; the input reads as it did. -/
def mapTruthUptoRow : OpenClaim := { program := "ytdkkfahnkenplaa", sum := "35f3b5a76d32513e47dfd20f36c3c45fe71e547b665428499fd8e51954445927", func := "modscan/modscanlaw25.MapTruth", spec := "mapTruth", apart := false, narrowed := true }
def MapTruthUptoSaid : Prop := mapTruthUptoRow.holds Try.pinned (OpenSpec.upto mapTruthSpec)

end Rows
end Go.Proofs.Ytdkkfahnkenplaa

/-
  No cell of these rows narrows 'for every input' (looked for: loops, veiled, ifaces, maps, wideKeys, modest, calm, conditions, laid).
  DERIVED. THE GIVEN ROWS OF THIS SEAT. 7 by the template 'for every input the law returns true; each argument reads behind the call as it read before'; 0 by the template 'total and deterministic' (their statements: YtjbbkhoonenfjaaTotals.lean).
  GIVEN WITH THE SEED: the statements are not yours to turn. If you find one false, say at which input.
  Laid BY PROGRAM, IN A SANDBOX (cutbox-rows.mjs): the forced cells as the released guide's own fill.sh prints them over the translation 60c94f8270540bdb… (all of the seat's roots in one cut). By AI agents, Wed Nov 11 2026. No macro, syntax, notation, axiom, sorry.
-/
import Derived.Test.YtjbbkhoonenfjaaChecked
import GoSem.Claim
import GoSem.ClaimJoined
import GoSem.ClaimMapViews
import Derived.JoinedTies
import Derived.KernelRfl
namespace Go.Proofs.Ytjbbkhoonenfjaa
/- THE CELL 'sum', in the pinned program and in every row, IS THE sha256 OF THE DUMP (.gsa) THAT YtjbbkhoonenfjaaProg.lean LOADS. Nothing in Lean hashes anything: it is a label: what it is worth is what the hold of that sum in a sandbox is worth. -/
noncomputable def Try.pinned : Pinned := { name := "ytjbbkhoonenfjaa", sum := "60c94f8270540bdb74d4b868101863034c2f21fcf330c302d54a945bf83212c4", checked := Try.checked }
namespace Rows
def none {H : Type} : Left H := { results := [], args := [] }

/-- 'modscanlaw04.RunsLong': WHATEVER THE INPUT: true; the input reads as it did. -/
def runsLongSpec : ChangeSpec := { name := "runsLong", fn := fun _ => fun
  | [d1, d2] => { results := [.lit (.bool true)], args := [d1, d2] }
  | _ => none }
def runsLongRow : OpenClaim := { program := "ytjbbkhoonenfjaa", sum := "60c94f8270540bdb74d4b868101863034c2f21fcf330c302d54a945bf83212c4", func := "modscan/modscanlaw04.RunsLong", spec := "runsLong", apart := false }
def RunsLongSaid : Prop := runsLongRow.holds Try.pinned (OpenSpec.ofChange runsLongSpec)

/-- ITS FALSE NEIGHBOUR: 'it returns false'. Refute it at one input. -/
def runsLongWrong : ChangeSpec := { name := "runsLong", fn := fun _ => fun
  | [d1, d2] => { results := [.lit (.bool false)], args := [d1, d2] }
  | _ => none }
def RunsLongWrongFalsely : Prop := runsLongRow.holds Try.pinned (OpenSpec.ofChange runsLongWrong)

/-- 'modscanlaw04.RunsJoin': WHATEVER THE INPUT: true; the input reads as it did. -/
def runsJoinSpec : ChangeSpec := { name := "runsJoin", fn := fun _ => fun
  | [d1, d2] => { results := [.lit (.bool true)], args := [d1, d2] }
  | _ => none }
def runsJoinRow : OpenClaim := { program := "ytjbbkhoonenfjaa", sum := "60c94f8270540bdb74d4b868101863034c2f21fcf330c302d54a945bf83212c4", func := "modscan/modscanlaw04.RunsJoin", spec := "runsJoin", apart := false }
def RunsJoinSaid : Prop := runsJoinRow.holds Try.pinned (OpenSpec.ofChange runsJoinSpec)

/-- ITS FALSE NEIGHBOUR: 'it returns false'. Refute it at one input. -/
def runsJoinWrong : ChangeSpec := { name := "runsJoin", fn := fun _ => fun
  | [d1, d2] => { results := [.lit (.bool false)], args := [d1, d2] }
  | _ => none }
def RunsJoinWrongFalsely : Prop := runsJoinRow.holds Try.pinned (OpenSpec.ofChange runsJoinWrong)

/-- 'modscanlaw04.RunsCount': WHATEVER THE INPUT: true; the input reads as it did. -/
def runsCountSpec : ChangeSpec := { name := "runsCount", fn := fun _ => fun
  | [d] => { results := [.lit (.bool true)], args := [d] }
  | _ => none }
def runsCountRow : OpenClaim := { program := "ytjbbkhoonenfjaa", sum := "60c94f8270540bdb74d4b868101863034c2f21fcf330c302d54a945bf83212c4", func := "modscan/modscanlaw04.RunsCount", spec := "runsCount", apart := false }
def RunsCountSaid : Prop := runsCountRow.holds Try.pinned (OpenSpec.ofChange runsCountSpec)

/-- ITS FALSE NEIGHBOUR: 'it returns false'. Refute it at one input. -/
def runsCountWrong : ChangeSpec := { name := "runsCount", fn := fun _ => fun
  | [d] => { results := [.lit (.bool false)], args := [d] }
  | _ => none }
def RunsCountWrongFalsely : Prop := runsCountRow.holds Try.pinned (OpenSpec.ofChange runsCountWrong)

/-- 'modscanlaw04.RunsEqual': WHATEVER THE INPUT: true; the input reads as it did. -/
def runsEqualSpec : ChangeSpec := { name := "runsEqual", fn := fun _ => fun
  | [d1, d2, d3, d4] => { results := [.lit (.bool true)], args := [d1, d2, d3, d4] }
  | _ => none }
def runsEqualRow : OpenClaim := { program := "ytjbbkhoonenfjaa", sum := "60c94f8270540bdb74d4b868101863034c2f21fcf330c302d54a945bf83212c4", func := "modscan/modscanlaw04.RunsEqual", spec := "runsEqual", apart := false }
def RunsEqualSaid : Prop := runsEqualRow.holds Try.pinned (OpenSpec.ofChange runsEqualSpec)

/-- ITS FALSE NEIGHBOUR: 'it returns false'. Refute it at one input. -/
def runsEqualWrong : ChangeSpec := { name := "runsEqual", fn := fun _ => fun
  | [d1, d2, d3, d4] => { results := [.lit (.bool false)], args := [d1, d2, d3, d4] }
  | _ => none }
def RunsEqualWrongFalsely : Prop := runsEqualRow.holds Try.pinned (OpenSpec.ofChange runsEqualWrong)

/-- 'modscanlaw04.RunsOf': WHATEVER THE INPUT: true; the input reads as it did. -/
def runsOfSpec : ChangeSpec := { name := "runsOf", fn := fun _ => fun
  | [d] => { results := [.lit (.bool true)], args := [d] }
  | _ => none }
def runsOfRow : OpenClaim := { program := "ytjbbkhoonenfjaa", sum := "60c94f8270540bdb74d4b868101863034c2f21fcf330c302d54a945bf83212c4", func := "modscan/modscanlaw04.RunsOf", spec := "runsOf", apart := false }
def RunsOfSaid : Prop := runsOfRow.holds Try.pinned (OpenSpec.ofChange runsOfSpec)

/-- ITS FALSE NEIGHBOUR: 'it returns false'. Refute it at one input. -/
def runsOfWrong : ChangeSpec := { name := "runsOf", fn := fun _ => fun
  | [d] => { results := [.lit (.bool false)], args := [d] }
  | _ => none }
def RunsOfWrongFalsely : Prop := runsOfRow.holds Try.pinned (OpenSpec.ofChange runsOfWrong)

/-- 'modscanlaw04.RunsSet': WHATEVER THE INPUT: true; the input reads as it did. -/
def runsSetSpec : ChangeSpec := { name := "runsSet", fn := fun _ => fun
  | [d1, d2, d3, d4] => { results := [.lit (.bool true)], args := [d1, d2, d3, d4] }
  | _ => none }
def runsSetRow : OpenClaim := { program := "ytjbbkhoonenfjaa", sum := "60c94f8270540bdb74d4b868101863034c2f21fcf330c302d54a945bf83212c4", func := "modscan/modscanlaw04.RunsSet", spec := "runsSet", apart := false }
def RunsSetSaid : Prop := runsSetRow.holds Try.pinned (OpenSpec.ofChange runsSetSpec)

/-- ITS FALSE NEIGHBOUR: 'it returns false'. Refute it at one input. -/
def runsSetWrong : ChangeSpec := { name := "runsSet", fn := fun _ => fun
  | [d1, d2, d3, d4] => { results := [.lit (.bool false)], args := [d1, d2, d3, d4] }
  | _ => none }
def RunsSetWrongFalsely : Prop := runsSetRow.holds Try.pinned (OpenSpec.ofChange runsSetWrong)

/-- 'modscanlaw04.RunsSlice': WHATEVER THE INPUT: true; the input reads as it did. -/
def runsSliceSpec : ChangeSpec := { name := "runsSlice", fn := fun _ => fun
  | [d1, d2, d3, d4] => { results := [.lit (.bool true)], args := [d1, d2, d3, d4] }
  | _ => none }
def runsSliceRow : OpenClaim := { program := "ytjbbkhoonenfjaa", sum := "60c94f8270540bdb74d4b868101863034c2f21fcf330c302d54a945bf83212c4", func := "modscan/modscanlaw04.RunsSlice", spec := "runsSlice", apart := false }
def RunsSliceSaid : Prop := runsSliceRow.holds Try.pinned (OpenSpec.ofChange runsSliceSpec)

/-- ITS FALSE NEIGHBOUR: 'it returns false'. Refute it at one input. -/
def runsSliceWrong : ChangeSpec := { name := "runsSlice", fn := fun _ => fun
  | [d1, d2, d3, d4] => { results := [.lit (.bool false)], args := [d1, d2, d3, d4] }
  | _ => none }
def RunsSliceWrongFalsely : Prop := runsSliceRow.holds Try.pinned (OpenSpec.ofChange runsSliceWrong)

/- THE SECOND FORM. 'bulk': how many values and letters a reading holds, each counted each time it is reached (what is shared counts as often as it is met; a slice's spare places count too). A statement '..UptoSaid' is the law's where the arguments, and the package variables that the reading takes, are together of bulk at most 1048576: NARROWER than '..Said'. Prove '..Said' where nothing that the law and all that it calls make is longer than what came in: it says more and counts as full. Else prove '..UptoSaid'. A law counts once. -/
mutual
def uptoBulk {H : Type} : DataW H → Nat
  | .lit (.string bytes) => bytes.length + 1
  | .lit _ => 1
  | .nil => 1
  | .ptr d => uptoBulk d + 1
  | .slice elems spare => uptoBulkAll elems + uptoBulkAll spare + 1
  | .agg parts => uptoBulkAll parts + 1
  | .iface _ d => uptoBulk d + 1
  | .map entries => uptoBulkEntries entries + 1
  | .held _ => 1
def uptoBulkAll {H : Type} : List (DataW H) → Nat
  | [] => 0
  | d :: r => uptoBulk d + uptoBulkAll r
def uptoBulkEntries {H : Type} : List (Lit × DataW H) → Nat
  | [] => 0
  | x :: r => uptoBulkEntry x + uptoBulkEntries r
def uptoBulkEntry {H : Type} : Lit × DataW H → Nat
  | (.string bytes, d) => bytes.length + uptoBulk d + 1
  | (_, d) => uptoBulk d + 1
 end
def uptoSmall : (H : Type) → List (DataW H) → Bool := fun _ ds => decide (uptoBulkAll ds ≤ 1048576)
def OpenSpec.upto (s : _root_.Go.ChangeSpec) : _root_.Go.OpenSpec := { _root_.Go.OpenSpec.ofChange s with cond := some uptoSmall }

/-- 'modscanlaw04.RunsLong', WHERE WHAT IT READS IS OF BULK AT MOST 1048576: true; the input reads as it did. -/
def runsLongUptoRow : OpenClaim := { program := "ytjbbkhoonenfjaa", sum := "60c94f8270540bdb74d4b868101863034c2f21fcf330c302d54a945bf83212c4", func := "modscan/modscanlaw04.RunsLong", spec := "runsLong", apart := false, narrowed := true }
def RunsLongUptoSaid : Prop := runsLongUptoRow.holds Try.pinned (OpenSpec.upto runsLongSpec)

/-- 'modscanlaw04.RunsJoin', WHERE WHAT IT READS IS OF BULK AT MOST 1048576: true; the input reads as it did. -/
def runsJoinUptoRow : OpenClaim := { program := "ytjbbkhoonenfjaa", sum := "60c94f8270540bdb74d4b868101863034c2f21fcf330c302d54a945bf83212c4", func := "modscan/modscanlaw04.RunsJoin", spec := "runsJoin", apart := false, narrowed := true }
def RunsJoinUptoSaid : Prop := runsJoinUptoRow.holds Try.pinned (OpenSpec.upto runsJoinSpec)

/-- 'modscanlaw04.RunsCount', WHERE WHAT IT READS IS OF BULK AT MOST 1048576: true; the input reads as it did. -/
def runsCountUptoRow : OpenClaim := { program := "ytjbbkhoonenfjaa", sum := "60c94f8270540bdb74d4b868101863034c2f21fcf330c302d54a945bf83212c4", func := "modscan/modscanlaw04.RunsCount", spec := "runsCount", apart := false, narrowed := true }
def RunsCountUptoSaid : Prop := runsCountUptoRow.holds Try.pinned (OpenSpec.upto runsCountSpec)

/-- 'modscanlaw04.RunsEqual', WHERE WHAT IT READS IS OF BULK AT MOST 1048576: true; the input reads as it did. -/
def runsEqualUptoRow : OpenClaim := { program := "ytjbbkhoonenfjaa", sum := "60c94f8270540bdb74d4b868101863034c2f21fcf330c302d54a945bf83212c4", func := "modscan/modscanlaw04.RunsEqual", spec := "runsEqual", apart := false, narrowed := true }
def RunsEqualUptoSaid : Prop := runsEqualUptoRow.holds Try.pinned (OpenSpec.upto runsEqualSpec)

/-- 'modscanlaw04.RunsOf', WHERE WHAT IT READS IS OF BULK AT MOST 1048576: true; the input reads as it did. -/
def runsOfUptoRow : OpenClaim := { program := "ytjbbkhoonenfjaa", sum := "60c94f8270540bdb74d4b868101863034c2f21fcf330c302d54a945bf83212c4", func := "modscan/modscanlaw04.RunsOf", spec := "runsOf", apart := false, narrowed := true }
def RunsOfUptoSaid : Prop := runsOfUptoRow.holds Try.pinned (OpenSpec.upto runsOfSpec)

/-- 'modscanlaw04.RunsSet', WHERE WHAT IT READS IS OF BULK AT MOST 1048576: true; the input reads as it did. -/
def runsSetUptoRow : OpenClaim := { program := "ytjbbkhoonenfjaa", sum := "60c94f8270540bdb74d4b868101863034c2f21fcf330c302d54a945bf83212c4", func := "modscan/modscanlaw04.RunsSet", spec := "runsSet", apart := false, narrowed := true }
def RunsSetUptoSaid : Prop := runsSetUptoRow.holds Try.pinned (OpenSpec.upto runsSetSpec)

/-- 'modscanlaw04.RunsSlice', WHERE WHAT IT READS IS OF BULK AT MOST 1048576: true; the input reads as it did. -/
def runsSliceUptoRow : OpenClaim := { program := "ytjbbkhoonenfjaa", sum := "60c94f8270540bdb74d4b868101863034c2f21fcf330c302d54a945bf83212c4", func := "modscan/modscanlaw04.RunsSlice", spec := "runsSlice", apart := false, narrowed := true }
def RunsSliceUptoSaid : Prop := runsSliceUptoRow.holds Try.pinned (OpenSpec.upto runsSliceSpec)

end Rows
end Go.Proofs.Ytjbbkhoonenfjaa

/-
  No cell of these rows narrows 'for every input' (looked for: loops, veiled, ifaces, maps, wideKeys, modest, calm, conditions, laid).
  DERIVED. THE GIVEN ROWS OF THIS SEAT. 4 by the template 'for every input the law returns true; each argument reads behind the call as it read before'; 0 by the template 'total and deterministic' (their statements: YtikhlmliefnccaaTotals.lean).
  GIVEN WITH THE SEED: the statements are not yours to turn. If you find one false, say at which input.
  Laid BY PROGRAM, IN A SANDBOX (cutbox-rows.mjs): the forced cells as the released guide's own fill.sh prints them over the translation 38b71b1d059e0255… (all of the seat's roots in one cut). By AI agents, Wed Nov 11 2026. No macro, syntax, notation, axiom, sorry.
-/
import Derived.Test.YtikhlmliefnccaaChecked
import GoSem.Claim
import GoSem.ClaimJoined
import GoSem.ClaimMapViews
import Derived.JoinedTies
import Derived.KernelRfl
namespace Go.Proofs.Ytikhlmliefnccaa
/- THE CELL 'sum', in the pinned program and in every row, IS THE sha256 OF THE DUMP (.gsa) THAT YtikhlmliefnccaaProg.lean LOADS. Nothing in Lean hashes anything: it is a label: what it is worth is what the hold of that sum in a sandbox is worth. -/
noncomputable def Try.pinned : Pinned := { name := "ytikhlmliefnccaa", sum := "38b71b1d059e02553c5a757527f9e87108e88f3eb78c9926c9a7c04ed4c3ca08", checked := Try.checked }
namespace Rows
def none {H : Type} : Left H := { results := [], args := [] }

/-- 'modscanlaw06.TimingTells': WHATEVER THE INPUT: true; the input reads as it did. -/
def timingTellsSpec : ChangeSpec := { name := "timingTells", fn := fun _ => fun
  | [d1, d2, d3, d4] => { results := [.lit (.bool true)], args := [d1, d2, d3, d4] }
  | _ => none }
def timingTellsRow : OpenClaim := { program := "ytikhlmliefnccaa", sum := "38b71b1d059e02553c5a757527f9e87108e88f3eb78c9926c9a7c04ed4c3ca08", func := "modscan/modscanlaw06.TimingTells", spec := "timingTells", apart := false }
def TimingTellsSaid : Prop := timingTellsRow.holds Try.pinned (OpenSpec.ofChange timingTellsSpec)

/-- ITS FALSE NEIGHBOUR: 'it returns false'. Refute it at one input. -/
def timingTellsWrong : ChangeSpec := { name := "timingTells", fn := fun _ => fun
  | [d1, d2, d3, d4] => { results := [.lit (.bool false)], args := [d1, d2, d3, d4] }
  | _ => none }
def TimingTellsWrongFalsely : Prop := timingTellsRow.holds Try.pinned (OpenSpec.ofChange timingTellsWrong)

/-- 'modscanlaw06.TimingOrder': WHATEVER THE INPUT: true; the input reads as it did. -/
def timingOrderSpec : ChangeSpec := { name := "timingOrder", fn := fun _ => fun
  | [d1, d2] => { results := [.lit (.bool true)], args := [d1, d2] }
  | _ => none }
def timingOrderRow : OpenClaim := { program := "ytikhlmliefnccaa", sum := "38b71b1d059e02553c5a757527f9e87108e88f3eb78c9926c9a7c04ed4c3ca08", func := "modscan/modscanlaw06.TimingOrder", spec := "timingOrder", apart := false }
def TimingOrderSaid : Prop := timingOrderRow.holds Try.pinned (OpenSpec.ofChange timingOrderSpec)

/-- ITS FALSE NEIGHBOUR: 'it returns false'. Refute it at one input. -/
def timingOrderWrong : ChangeSpec := { name := "timingOrder", fn := fun _ => fun
  | [d1, d2] => { results := [.lit (.bool false)], args := [d1, d2] }
  | _ => none }
def TimingOrderWrongFalsely : Prop := timingOrderRow.holds Try.pinned (OpenSpec.ofChange timingOrderWrong)

/-- 'modscanlaw06.TimingDrain': WHATEVER THE INPUT: true; the input reads as it did. -/
def timingDrainSpec : ChangeSpec := { name := "timingDrain", fn := fun _ => fun
  | [d1, d2, d3, d4] => { results := [.lit (.bool true)], args := [d1, d2, d3, d4] }
  | _ => none }
def timingDrainRow : OpenClaim := { program := "ytikhlmliefnccaa", sum := "38b71b1d059e02553c5a757527f9e87108e88f3eb78c9926c9a7c04ed4c3ca08", func := "modscan/modscanlaw06.TimingDrain", spec := "timingDrain", apart := false }
def TimingDrainSaid : Prop := timingDrainRow.holds Try.pinned (OpenSpec.ofChange timingDrainSpec)

/-- ITS FALSE NEIGHBOUR: 'it returns false'. Refute it at one input. -/
def timingDrainWrong : ChangeSpec := { name := "timingDrain", fn := fun _ => fun
  | [d1, d2, d3, d4] => { results := [.lit (.bool false)], args := [d1, d2, d3, d4] }
  | _ => none }
def TimingDrainWrongFalsely : Prop := timingDrainRow.holds Try.pinned (OpenSpec.ofChange timingDrainWrong)

/-- 'modscanlaw06.TimingCovers': WHATEVER THE INPUT: true; the input reads as it did. -/
def timingCoversSpec : ChangeSpec := { name := "timingCovers", fn := fun _ => fun
  | [d1, d2, d3, d4] => { results := [.lit (.bool true)], args := [d1, d2, d3, d4] }
  | _ => none }
def timingCoversRow : OpenClaim := { program := "ytikhlmliefnccaa", sum := "38b71b1d059e02553c5a757527f9e87108e88f3eb78c9926c9a7c04ed4c3ca08", func := "modscan/modscanlaw06.TimingCovers", spec := "timingCovers", apart := false }
def TimingCoversSaid : Prop := timingCoversRow.holds Try.pinned (OpenSpec.ofChange timingCoversSpec)

/-- ITS FALSE NEIGHBOUR: 'it returns false'. Refute it at one input. -/
def timingCoversWrong : ChangeSpec := { name := "timingCovers", fn := fun _ => fun
  | [d1, d2, d3, d4] => { results := [.lit (.bool false)], args := [d1, d2, d3, d4] }
  | _ => none }
def TimingCoversWrongFalsely : Prop := timingCoversRow.holds Try.pinned (OpenSpec.ofChange timingCoversWrong)

/- THE SECOND FORM. 'bulk': how many values and letters a reading holds, each counted each time it is reached (what is shared counts as often as it is met; a slice's spare places count too). A statement '..UptoSaid' is the law's where the arguments, and the package variables that the reading takes, are together of bulk at most 1048576: NARROWER than '..Said'. Prove '..Said' where nothing that the law and all that it calls make is longer than what came in: it says more and counts as full. Else prove '..UptoSaid'. A law counts once. -/
mutual
def uptoBulk {H : Type} : DataW H → Nat
  | .lit (.string bytes) => bytes.length + 1
  | .lit _ => 1
  | .nil => 1
  | .ptr d => uptoBulk d + 1
  | .slice elems spare => uptoBulkAll elems + uptoBulkAll spare + 1
  | .agg parts => uptoBulkAll parts + 1
  | .iface _ d => uptoBulk d + 1
  | .map entries => uptoBulkEntries entries + 1
  | .held _ => 1
def uptoBulkAll {H : Type} : List (DataW H) → Nat
  | [] => 0
  | d :: r => uptoBulk d + uptoBulkAll r
def uptoBulkEntries {H : Type} : List (Lit × DataW H) → Nat
  | [] => 0
  | x :: r => uptoBulkEntry x + uptoBulkEntries r
def uptoBulkEntry {H : Type} : Lit × DataW H → Nat
  | (.string bytes, d) => bytes.length + uptoBulk d + 1
  | (_, d) => uptoBulk d + 1
 end
def uptoSmall : (H : Type) → List (DataW H) → Bool := fun _ ds => decide (uptoBulkAll ds ≤ 1048576)
def OpenSpec.upto (s : _root_.Go.ChangeSpec) : _root_.Go.OpenSpec := { _root_.Go.OpenSpec.ofChange s with cond := some uptoSmall }

/-- 'modscanlaw06.TimingTells', WHERE WHAT IT READS IS OF BULK AT MOST 1048576: true; the input reads as it did. -/
def timingTellsUptoRow : OpenClaim := { program := "ytikhlmliefnccaa", sum := "38b71b1d059e02553c5a757527f9e87108e88f3eb78c9926c9a7c04ed4c3ca08", func := "modscan/modscanlaw06.TimingTells", spec := "timingTells", apart := false, narrowed := true }
def TimingTellsUptoSaid : Prop := timingTellsUptoRow.holds Try.pinned (OpenSpec.upto timingTellsSpec)

/-- 'modscanlaw06.TimingOrder', WHERE WHAT IT READS IS OF BULK AT MOST 1048576: true; the input reads as it did. -/
def timingOrderUptoRow : OpenClaim := { program := "ytikhlmliefnccaa", sum := "38b71b1d059e02553c5a757527f9e87108e88f3eb78c9926c9a7c04ed4c3ca08", func := "modscan/modscanlaw06.TimingOrder", spec := "timingOrder", apart := false, narrowed := true }
def TimingOrderUptoSaid : Prop := timingOrderUptoRow.holds Try.pinned (OpenSpec.upto timingOrderSpec)

/-- 'modscanlaw06.TimingDrain', WHERE WHAT IT READS IS OF BULK AT MOST 1048576: true; the input reads as it did. -/
def timingDrainUptoRow : OpenClaim := { program := "ytikhlmliefnccaa", sum := "38b71b1d059e02553c5a757527f9e87108e88f3eb78c9926c9a7c04ed4c3ca08", func := "modscan/modscanlaw06.TimingDrain", spec := "timingDrain", apart := false, narrowed := true }
def TimingDrainUptoSaid : Prop := timingDrainUptoRow.holds Try.pinned (OpenSpec.upto timingDrainSpec)

/-- 'modscanlaw06.TimingCovers', WHERE WHAT IT READS IS OF BULK AT MOST 1048576: true; the input reads as it did. -/
def timingCoversUptoRow : OpenClaim := { program := "ytikhlmliefnccaa", sum := "38b71b1d059e02553c5a757527f9e87108e88f3eb78c9926c9a7c04ed4c3ca08", func := "modscan/modscanlaw06.TimingCovers", spec := "timingCovers", apart := false, narrowed := true }
def TimingCoversUptoSaid : Prop := timingCoversUptoRow.holds Try.pinned (OpenSpec.upto timingCoversSpec)

end Rows
end Go.Proofs.Ytikhlmliefnccaa

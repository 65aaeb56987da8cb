/-
  No cell of these rows narrows 'for every input' (looked for: loops, veiled, ifaces, maps, wideKeys, modest, calm, conditions, laid).
  DERIVED. THE GIVEN ROWS OF THIS SEAT. 6 by the template 'for every input the law returns true; each argument reads behind the call as it read before'; 0 by the template 'total and deterministic' (their statements: YtebeaghombjooaaTotals.lean).
  GIVEN WITH THE SEED: the statements are not yours to turn. If you find one false, say at which input.
  Laid BY PROGRAM, IN A SANDBOX (cutbox-rows.mjs): the forced cells as the released guide's own fill.sh prints them over the translation 91269e88d30b8015… (all of the seat's roots in one cut). By AI agents, Wed Nov 11 2026. No macro, syntax, notation, axiom, sorry.
-/
import Derived.Test.YtebeaghombjooaaChecked
import GoSem.Claim
import GoSem.ClaimJoined
import GoSem.ClaimMapViews
import Derived.JoinedTies
import Derived.KernelRfl
namespace Go.Proofs.Ytebeaghombjooaa
/- THE CELL 'sum', in the pinned program and in every row, IS THE sha256 OF THE DUMP (.gsa) THAT YtebeaghombjooaaProg.lean LOADS. Nothing in Lean hashes anything: it is a label: what it is worth is what the hold of that sum in a sandbox is worth. -/
noncomputable def Try.pinned : Pinned := { name := "ytebeaghombjooaa", sum := "91269e88d30b801555dbe4dbd63e62c73ed1df3bd08371ab8ff0c659720025d8", checked := Try.checked }
namespace Rows
def none {H : Type} : Left H := { results := [], args := [] }

/-- 'modscanlaw12.RangesJoin': WHATEVER THE INPUT: true; the input reads as it did. -/
def rangesJoinSpec : ChangeSpec := { name := "rangesJoin", fn := fun _ => fun
  | [d1, d2] => { results := [.lit (.bool true)], args := [d1, d2] }
  | _ => none }
def rangesJoinRow : OpenClaim := { program := "ytebeaghombjooaa", sum := "91269e88d30b801555dbe4dbd63e62c73ed1df3bd08371ab8ff0c659720025d8", func := "modscan/modscanlaw12.RangesJoin", spec := "rangesJoin", unfollowed := true, recurses := true, apart := false }
def RangesJoinSaid : Prop := rangesJoinRow.holds Try.pinned (OpenSpec.ofChange rangesJoinSpec)

/-- ITS FALSE NEIGHBOUR: 'it returns false'. Refute it at one input. -/
def rangesJoinWrong : ChangeSpec := { name := "rangesJoin", fn := fun _ => fun
  | [d1, d2] => { results := [.lit (.bool false)], args := [d1, d2] }
  | _ => none }
def RangesJoinWrongFalsely : Prop := rangesJoinRow.holds Try.pinned (OpenSpec.ofChange rangesJoinWrong)

/-- 'modscanlaw12.RangesAlgebra': WHATEVER THE INPUT: true; the input reads as it did. -/
def rangesAlgebraSpec : ChangeSpec := { name := "rangesAlgebra", fn := fun _ => fun
  | [d1, d2] => { results := [.lit (.bool true)], args := [d1, d2] }
  | _ => none }
def rangesAlgebraRow : OpenClaim := { program := "ytebeaghombjooaa", sum := "91269e88d30b801555dbe4dbd63e62c73ed1df3bd08371ab8ff0c659720025d8", func := "modscan/modscanlaw12.RangesAlgebra", spec := "rangesAlgebra", unfollowed := true, recurses := true, apart := false }
def RangesAlgebraSaid : Prop := rangesAlgebraRow.holds Try.pinned (OpenSpec.ofChange rangesAlgebraSpec)

/-- ITS FALSE NEIGHBOUR: 'it returns false'. Refute it at one input. -/
def rangesAlgebraWrong : ChangeSpec := { name := "rangesAlgebra", fn := fun _ => fun
  | [d1, d2] => { results := [.lit (.bool false)], args := [d1, d2] }
  | _ => none }
def RangesAlgebraWrongFalsely : Prop := rangesAlgebraRow.holds Try.pinned (OpenSpec.ofChange rangesAlgebraWrong)

/-- 'modscanlaw12.RangesOf': WHATEVER THE INPUT: true; the input reads as it did. -/
def rangesOfSpec : ChangeSpec := { name := "rangesOf", fn := fun _ => fun
  | [d1, d2] => { results := [.lit (.bool true)], args := [d1, d2] }
  | _ => none }
def rangesOfRow : OpenClaim := { program := "ytebeaghombjooaa", sum := "91269e88d30b801555dbe4dbd63e62c73ed1df3bd08371ab8ff0c659720025d8", func := "modscan/modscanlaw12.RangesOf", spec := "rangesOf", unfollowed := true, recurses := true, apart := false }
def RangesOfSaid : Prop := rangesOfRow.holds Try.pinned (OpenSpec.ofChange rangesOfSpec)

/-- ITS FALSE NEIGHBOUR: 'it returns false'. Refute it at one input. -/
def rangesOfWrong : ChangeSpec := { name := "rangesOf", fn := fun _ => fun
  | [d1, d2] => { results := [.lit (.bool false)], args := [d1, d2] }
  | _ => none }
def RangesOfWrongFalsely : Prop := rangesOfRow.holds Try.pinned (OpenSpec.ofChange rangesOfWrong)

/-- 'modscanlaw12.RangesClip': WHATEVER THE INPUT: true; the input reads as it did. -/
def rangesClipSpec : ChangeSpec := { name := "rangesClip", fn := fun _ => fun
  | [d1, d2] => { results := [.lit (.bool true)], args := [d1, d2] }
  | _ => none }
def rangesClipRow : OpenClaim := { program := "ytebeaghombjooaa", sum := "91269e88d30b801555dbe4dbd63e62c73ed1df3bd08371ab8ff0c659720025d8", func := "modscan/modscanlaw12.RangesClip", spec := "rangesClip", unfollowed := true, recurses := true, apart := false }
def RangesClipSaid : Prop := rangesClipRow.holds Try.pinned (OpenSpec.ofChange rangesClipSpec)

/-- ITS FALSE NEIGHBOUR: 'it returns false'. Refute it at one input. -/
def rangesClipWrong : ChangeSpec := { name := "rangesClip", fn := fun _ => fun
  | [d1, d2] => { results := [.lit (.bool false)], args := [d1, d2] }
  | _ => none }
def RangesClipWrongFalsely : Prop := rangesClipRow.holds Try.pinned (OpenSpec.ofChange rangesClipWrong)

/-- 'modscanlaw12.RangesValid': WHATEVER THE INPUT: true; the input reads as it did. -/
def rangesValidSpec : ChangeSpec := { name := "rangesValid", fn := fun _ => fun
  | [d1, d2, d3] => { results := [.lit (.bool true)], args := [d1, d2, d3] }
  | _ => none }
def rangesValidRow : OpenClaim := { program := "ytebeaghombjooaa", sum := "91269e88d30b801555dbe4dbd63e62c73ed1df3bd08371ab8ff0c659720025d8", func := "modscan/modscanlaw12.RangesValid", spec := "rangesValid", unfollowed := true, recurses := true, apart := false }
def RangesValidSaid : Prop := rangesValidRow.holds Try.pinned (OpenSpec.ofChange rangesValidSpec)

/-- ITS FALSE NEIGHBOUR: 'it returns false'. Refute it at one input. -/
def rangesValidWrong : ChangeSpec := { name := "rangesValid", fn := fun _ => fun
  | [d1, d2, d3] => { results := [.lit (.bool false)], args := [d1, d2, d3] }
  | _ => none }
def RangesValidWrongFalsely : Prop := rangesValidRow.holds Try.pinned (OpenSpec.ofChange rangesValidWrong)

/-- 'modscanlaw12.RangesCovers': WHATEVER THE INPUT: true; the input reads as it did. -/
def rangesCoversSpec : ChangeSpec := { name := "rangesCovers", fn := fun _ => fun
  | [d1, d2] => { results := [.lit (.bool true)], args := [d1, d2] }
  | _ => none }
def rangesCoversRow : OpenClaim := { program := "ytebeaghombjooaa", sum := "91269e88d30b801555dbe4dbd63e62c73ed1df3bd08371ab8ff0c659720025d8", func := "modscan/modscanlaw12.RangesCovers", spec := "rangesCovers", unfollowed := true, recurses := true, apart := false }
def RangesCoversSaid : Prop := rangesCoversRow.holds Try.pinned (OpenSpec.ofChange rangesCoversSpec)

/-- ITS FALSE NEIGHBOUR: 'it returns false'. Refute it at one input. -/
def rangesCoversWrong : ChangeSpec := { name := "rangesCovers", fn := fun _ => fun
  | [d1, d2] => { results := [.lit (.bool false)], args := [d1, d2] }
  | _ => none }
def RangesCoversWrongFalsely : Prop := rangesCoversRow.holds Try.pinned (OpenSpec.ofChange rangesCoversWrong)

/- THE SECOND FORM. 'bulk': how many values and letters a reading holds, each counted each time it is reached (what is shared counts as often as it is met; a slice's spare places count too). A statement '..UptoSaid' is the law's where the arguments, and the package variables that the reading takes, are together of bulk at most 1048576: NARROWER than '..Said'. Prove '..Said' where nothing that the law and all that it calls make is longer than what came in: it says more and counts as full. Else prove '..UptoSaid'. A law counts once. -/
mutual
def uptoBulk {H : Type} : DataW H → Nat
  | .lit (.string bytes) => bytes.length + 1
  | .lit _ => 1
  | .nil => 1
  | .ptr d => uptoBulk d + 1
  | .slice elems spare => uptoBulkAll elems + uptoBulkAll spare + 1
  | .agg parts => uptoBulkAll parts + 1
  | .iface _ d => uptoBulk d + 1
  | .map entries => uptoBulkEntries entries + 1
  | .held _ => 1
def uptoBulkAll {H : Type} : List (DataW H) → Nat
  | [] => 0
  | d :: r => uptoBulk d + uptoBulkAll r
def uptoBulkEntries {H : Type} : List (Lit × DataW H) → Nat
  | [] => 0
  | x :: r => uptoBulkEntry x + uptoBulkEntries r
def uptoBulkEntry {H : Type} : Lit × DataW H → Nat
  | (.string bytes, d) => bytes.length + uptoBulk d + 1
  | (_, d) => uptoBulk d + 1
 end
def uptoSmall : (H : Type) → List (DataW H) → Bool := fun _ ds => decide (uptoBulkAll ds ≤ 1048576)
def OpenSpec.upto (s : _root_.Go.ChangeSpec) : _root_.Go.OpenSpec := { _root_.Go.OpenSpec.ofChange s with cond := some uptoSmall }

/-- 'modscanlaw12.RangesJoin', WHERE WHAT IT READS IS OF BULK AT MOST 1048576: true; the input reads as it did. -/
def rangesJoinUptoRow : OpenClaim := { program := "ytebeaghombjooaa", sum := "91269e88d30b801555dbe4dbd63e62c73ed1df3bd08371ab8ff0c659720025d8", func := "modscan/modscanlaw12.RangesJoin", spec := "rangesJoin", unfollowed := true, recurses := true, apart := false, narrowed := true }
def RangesJoinUptoSaid : Prop := rangesJoinUptoRow.holds Try.pinned (OpenSpec.upto rangesJoinSpec)

/-- 'modscanlaw12.RangesAlgebra', WHERE WHAT IT READS IS OF BULK AT MOST 1048576: true; the input reads as it did. -/
def rangesAlgebraUptoRow : OpenClaim := { program := "ytebeaghombjooaa", sum := "91269e88d30b801555dbe4dbd63e62c73ed1df3bd08371ab8ff0c659720025d8", func := "modscan/modscanlaw12.RangesAlgebra", spec := "rangesAlgebra", unfollowed := true, recurses := true, apart := false, narrowed := true }
def RangesAlgebraUptoSaid : Prop := rangesAlgebraUptoRow.holds Try.pinned (OpenSpec.upto rangesAlgebraSpec)

/-- 'modscanlaw12.RangesOf', WHERE WHAT IT READS IS OF BULK AT MOST 1048576: true; the input reads as it did. -/
def rangesOfUptoRow : OpenClaim := { program := "ytebeaghombjooaa", sum := "91269e88d30b801555dbe4dbd63e62c73ed1df3bd08371ab8ff0c659720025d8", func := "modscan/modscanlaw12.RangesOf", spec := "rangesOf", unfollowed := true, recurses := true, apart := false, narrowed := true }
def RangesOfUptoSaid : Prop := rangesOfUptoRow.holds Try.pinned (OpenSpec.upto rangesOfSpec)

/-- 'modscanlaw12.RangesClip', WHERE WHAT IT READS IS OF BULK AT MOST 1048576: true; the input reads as it did. -/
def rangesClipUptoRow : OpenClaim := { program := "ytebeaghombjooaa", sum := "91269e88d30b801555dbe4dbd63e62c73ed1df3bd08371ab8ff0c659720025d8", func := "modscan/modscanlaw12.RangesClip", spec := "rangesClip", unfollowed := true, recurses := true, apart := false, narrowed := true }
def RangesClipUptoSaid : Prop := rangesClipUptoRow.holds Try.pinned (OpenSpec.upto rangesClipSpec)

/-- 'modscanlaw12.RangesValid', WHERE WHAT IT READS IS OF BULK AT MOST 1048576: true; the input reads as it did. -/
def rangesValidUptoRow : OpenClaim := { program := "ytebeaghombjooaa", sum := "91269e88d30b801555dbe4dbd63e62c73ed1df3bd08371ab8ff0c659720025d8", func := "modscan/modscanlaw12.RangesValid", spec := "rangesValid", unfollowed := true, recurses := true, apart := false, narrowed := true }
def RangesValidUptoSaid : Prop := rangesValidUptoRow.holds Try.pinned (OpenSpec.upto rangesValidSpec)

/-- 'modscanlaw12.RangesCovers', WHERE WHAT IT READS IS OF BULK AT MOST 1048576: true; the input reads as it did. -/
def rangesCoversUptoRow : OpenClaim := { program := "ytebeaghombjooaa", sum := "91269e88d30b801555dbe4dbd63e62c73ed1df3bd08371ab8ff0c659720025d8", func := "modscan/modscanlaw12.RangesCovers", spec := "rangesCovers", unfollowed := true, recurses := true, apart := false, narrowed := true }
def RangesCoversUptoSaid : Prop := rangesCoversUptoRow.holds Try.pinned (OpenSpec.upto rangesCoversSpec)

end Rows
end Go.Proofs.Ytebeaghombjooaa

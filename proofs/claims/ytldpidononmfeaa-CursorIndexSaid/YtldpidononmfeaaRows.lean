/-
  No cell of these rows narrows 'for every input' (looked for: loops, veiled, ifaces, maps, wideKeys, modest, calm, conditions, laid).
  DERIVED. THE GIVEN ROWS OF THIS SEAT. 3 by the template 'for every input the law returns true; each argument reads behind the call as it read before'; 0 by the template 'total and deterministic' (their statements: YtldpidononmfeaaTotals.lean).
  GIVEN WITH THE SEED: the statements are not yours to turn. If you find one false, say at which input.
  Laid BY PROGRAM, IN A SANDBOX (cutbox-rows.mjs): the forced cells as the released guide's own fill.sh prints them over the translation 965d49bdc656fadc… (all of the seat's roots in one cut). By AI agents, Wed Nov 11 2026. No macro, syntax, notation, axiom, sorry.
-/
import Derived.Test.YtldpidononmfeaaChecked
import GoSem.Claim
import GoSem.ClaimJoined
import GoSem.ClaimMapViews
import Derived.JoinedTies
import Derived.KernelRfl
namespace Go.Proofs.Ytldpidononmfeaa
/- THE CELL 'sum', in the pinned program and in every row, IS THE sha256 OF THE DUMP (.gsa) THAT YtldpidononmfeaaProg.lean LOADS. Nothing in Lean hashes anything: it is a label: what it is worth is what the hold of that sum in a sandbox is worth. -/
noncomputable def Try.pinned : Pinned := { name := "ytldpidononmfeaa", sum := "965d49bdc656fadcfc4ba66d7b4c5a22f1d2235ee972aca1d4fc841cd28a3b6a", checked := Try.checked }
namespace Rows
def none {H : Type} : Left H := { results := [], args := [] }

/-- 'modscanlaw30.CursorPlace': WHATEVER THE INPUT: true; the input reads as it did. -/
def cursorPlaceSpec : ChangeSpec := { name := "cursorPlace", fn := fun _ => fun
  | [d1, d2] => { results := [.lit (.bool true)], args := [d1, d2] }
  | _ => none }
def cursorPlaceRow : OpenClaim := { program := "ytldpidononmfeaa", sum := "965d49bdc656fadcfc4ba66d7b4c5a22f1d2235ee972aca1d4fc841cd28a3b6a", func := "modscan/modscanlaw30.CursorPlace", spec := "cursorPlace", apart := false }
def CursorPlaceSaid : Prop := cursorPlaceRow.holds Try.pinned (OpenSpec.ofChange cursorPlaceSpec)

/-- ITS FALSE NEIGHBOUR: 'it returns false'. Refute it at one input. -/
def cursorPlaceWrong : ChangeSpec := { name := "cursorPlace", fn := fun _ => fun
  | [d1, d2] => { results := [.lit (.bool false)], args := [d1, d2] }
  | _ => none }
def CursorPlaceWrongFalsely : Prop := cursorPlaceRow.holds Try.pinned (OpenSpec.ofChange cursorPlaceWrong)

/-- 'modscanlaw30.CursorIndex': WHATEVER THE INPUT: true; the input reads as it did. -/
def cursorIndexSpec : ChangeSpec := { name := "cursorIndex", fn := fun _ => fun
  | [d1, d2, d3] => { results := [.lit (.bool true)], args := [d1, d2, d3] }
  | _ => none }
def cursorIndexRow : OpenClaim := { program := "ytldpidononmfeaa", sum := "965d49bdc656fadcfc4ba66d7b4c5a22f1d2235ee972aca1d4fc841cd28a3b6a", func := "modscan/modscanlaw30.CursorIndex", spec := "cursorIndex", apart := false }
def CursorIndexSaid : Prop := cursorIndexRow.holds Try.pinned (OpenSpec.ofChange cursorIndexSpec)

/-- ITS FALSE NEIGHBOUR: 'it returns false'. Refute it at one input. -/
def cursorIndexWrong : ChangeSpec := { name := "cursorIndex", fn := fun _ => fun
  | [d1, d2, d3] => { results := [.lit (.bool false)], args := [d1, d2, d3] }
  | _ => none }
def CursorIndexWrongFalsely : Prop := cursorIndexRow.holds Try.pinned (OpenSpec.ofChange cursorIndexWrong)

/-- 'modscanlaw30.CursorOrder': WHATEVER THE INPUT: true; the input reads as it did. -/
def cursorOrderSpec : ChangeSpec := { name := "cursorOrder", fn := fun _ => fun
  | [d] => { results := [.lit (.bool true)], args := [d] }
  | _ => none }
def cursorOrderRow : OpenClaim := { program := "ytldpidononmfeaa", sum := "965d49bdc656fadcfc4ba66d7b4c5a22f1d2235ee972aca1d4fc841cd28a3b6a", func := "modscan/modscanlaw30.CursorOrder", spec := "cursorOrder", apart := false }
def CursorOrderSaid : Prop := cursorOrderRow.holds Try.pinned (OpenSpec.ofChange cursorOrderSpec)

/-- ITS FALSE NEIGHBOUR: 'it returns false'. Refute it at one input. -/
def cursorOrderWrong : ChangeSpec := { name := "cursorOrder", fn := fun _ => fun
  | [d] => { results := [.lit (.bool false)], args := [d] }
  | _ => none }
def CursorOrderWrongFalsely : Prop := cursorOrderRow.holds Try.pinned (OpenSpec.ofChange cursorOrderWrong)

/- THE SECOND FORM. 'bulk': how many values and letters a reading holds, each counted each time it is reached (what is shared counts as often as it is met; a slice's spare places count too). A statement '..UptoSaid' is the law's where the arguments, and the package variables that the reading takes, are together of bulk at most 1048576: NARROWER than '..Said'. Prove '..Said' where nothing that the law and all that it calls make is longer than what came in: it says more and counts as full. Else prove '..UptoSaid'. A law counts once. -/
mutual
def uptoBulk {H : Type} : DataW H → Nat
  | .lit (.string bytes) => bytes.length + 1
  | .lit _ => 1
  | .nil => 1
  | .ptr d => uptoBulk d + 1
  | .slice elems spare => uptoBulkAll elems + uptoBulkAll spare + 1
  | .agg parts => uptoBulkAll parts + 1
  | .iface _ d => uptoBulk d + 1
  | .map entries => uptoBulkEntries entries + 1
  | .held _ => 1
def uptoBulkAll {H : Type} : List (DataW H) → Nat
  | [] => 0
  | d :: r => uptoBulk d + uptoBulkAll r
def uptoBulkEntries {H : Type} : List (Lit × DataW H) → Nat
  | [] => 0
  | x :: r => uptoBulkEntry x + uptoBulkEntries r
def uptoBulkEntry {H : Type} : Lit × DataW H → Nat
  | (.string bytes, d) => bytes.length + uptoBulk d + 1
  | (_, d) => uptoBulk d + 1
 end
def uptoSmall : (H : Type) → List (DataW H) → Bool := fun _ ds => decide (uptoBulkAll ds ≤ 1048576)
def OpenSpec.upto (s : _root_.Go.ChangeSpec) : _root_.Go.OpenSpec := { _root_.Go.OpenSpec.ofChange s with cond := some uptoSmall }

/-- 'modscanlaw30.CursorPlace', WHERE WHAT IT READS IS OF BULK AT MOST 1048576: true; the input reads as it did. -/
def cursorPlaceUptoRow : OpenClaim := { program := "ytldpidononmfeaa", sum := "965d49bdc656fadcfc4ba66d7b4c5a22f1d2235ee972aca1d4fc841cd28a3b6a", func := "modscan/modscanlaw30.CursorPlace", spec := "cursorPlace", apart := false, narrowed := true }
def CursorPlaceUptoSaid : Prop := cursorPlaceUptoRow.holds Try.pinned (OpenSpec.upto cursorPlaceSpec)

/-- 'modscanlaw30.CursorIndex', WHERE WHAT IT READS IS OF BULK AT MOST 1048576: true; the input reads as it did. -/
def cursorIndexUptoRow : OpenClaim := { program := "ytldpidononmfeaa", sum := "965d49bdc656fadcfc4ba66d7b4c5a22f1d2235ee972aca1d4fc841cd28a3b6a", func := "modscan/modscanlaw30.CursorIndex", spec := "cursorIndex", apart := false, narrowed := true }
def CursorIndexUptoSaid : Prop := cursorIndexUptoRow.holds Try.pinned (OpenSpec.upto cursorIndexSpec)

/-- 'modscanlaw30.CursorOrder', WHERE WHAT IT READS IS OF BULK AT MOST 1048576: true; the input reads as it did. -/
def cursorOrderUptoRow : OpenClaim := { program := "ytldpidononmfeaa", sum := "965d49bdc656fadcfc4ba66d7b4c5a22f1d2235ee972aca1d4fc841cd28a3b6a", func := "modscan/modscanlaw30.CursorOrder", spec := "cursorOrder", apart := false, narrowed := true }
def CursorOrderUptoSaid : Prop := cursorOrderUptoRow.holds Try.pinned (OpenSpec.upto cursorOrderSpec)

end Rows
end Go.Proofs.Ytldpidononmfeaa

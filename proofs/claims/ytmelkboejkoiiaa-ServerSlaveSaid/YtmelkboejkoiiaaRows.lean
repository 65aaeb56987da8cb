/-
  No cell of these rows narrows 'for every input' (looked for: loops, veiled, ifaces, maps, wideKeys, modest, calm, conditions, laid).
  DERIVED. THE GIVEN ROWS OF THIS SEAT. 3 by the template 'for every input the law returns true; each argument reads behind the call as it read before'; 0 by the template 'total and deterministic' (their statements: YtmelkboejkoiiaaTotals.lean).
  GIVEN WITH THE SEED: the statements are not yours to turn. If you find one false, say at which input.
  Laid BY PROGRAM, IN A SANDBOX (cutbox-rows.mjs): the forced cells as the released guide's own fill.sh prints them over the translation 6da3bd30c56edf09… (all of the seat's roots in one cut). By AI agents, Wed Nov 11 2026. No macro, syntax, notation, axiom, sorry.
-/
import Derived.Test.YtmelkboejkoiiaaChecked
import GoSem.Claim
import GoSem.ClaimJoined
import GoSem.ClaimMapViews
import Derived.JoinedTies
import Derived.KernelRfl
namespace Go.Proofs.Ytmelkboejkoiiaa
/- THE CELL 'sum', in the pinned program and in every row, IS THE sha256 OF THE DUMP (.gsa) THAT YtmelkboejkoiiaaProg.lean LOADS. Nothing in Lean hashes anything: it is a label: what it is worth is what the hold of that sum in a sandbox is worth. -/
noncomputable def Try.pinned : Pinned := { name := "ytmelkboejkoiiaa", sum := "6da3bd30c56edf0993dbce4e59b2a539df7f785e3be584e8f98cbd8dde52fd78", checked := Try.checked }
namespace Rows
def none {H : Type} : Left H := { results := [], args := [] }

/-- 'modscanlaw23.ServerResult': WHATEVER THE INPUT: true; the input reads as it did. -/
def serverResultSpec : ChangeSpec := { name := "serverResult", fn := fun _ => fun
  | [d] => { results := [.lit (.bool true)], args := [d] }
  | _ => none }
def serverResultRow : OpenClaim := { program := "ytmelkboejkoiiaa", sum := "6da3bd30c56edf0993dbce4e59b2a539df7f785e3be584e8f98cbd8dde52fd78", func := "modscan/modscanlaw23.ServerResult", spec := "serverResult", apart := false }
def ServerResultSaid : Prop := serverResultRow.holds Try.pinned (OpenSpec.ofChange serverResultSpec)

/-- ITS FALSE NEIGHBOUR: 'it returns false'. Refute it at one input. -/
def serverResultWrong : ChangeSpec := { name := "serverResult", fn := fun _ => fun
  | [d] => { results := [.lit (.bool false)], args := [d] }
  | _ => none }
def ServerResultWrongFalsely : Prop := serverResultRow.holds Try.pinned (OpenSpec.ofChange serverResultWrong)

/-- 'modscanlaw23.ServerOwn': WHATEVER THE INPUT: true; the input reads as it did. -/
def serverOwnSpec : ChangeSpec := { name := "serverOwn", fn := fun _ => fun
  | [d] => { results := [.lit (.bool true)], args := [d] }
  | _ => none }
def serverOwnRow : OpenClaim := { program := "ytmelkboejkoiiaa", sum := "6da3bd30c56edf0993dbce4e59b2a539df7f785e3be584e8f98cbd8dde52fd78", func := "modscan/modscanlaw23.ServerOwn", spec := "serverOwn", apart := false }
def ServerOwnSaid : Prop := serverOwnRow.holds Try.pinned (OpenSpec.ofChange serverOwnSpec)

/-- ITS FALSE NEIGHBOUR: 'it returns false'. Refute it at one input. -/
def serverOwnWrong : ChangeSpec := { name := "serverOwn", fn := fun _ => fun
  | [d] => { results := [.lit (.bool false)], args := [d] }
  | _ => none }
def ServerOwnWrongFalsely : Prop := serverOwnRow.holds Try.pinned (OpenSpec.ofChange serverOwnWrong)

/-- 'modscanlaw23.ServerSlave': WHATEVER THE INPUT: true; the input reads as it did. -/
def serverSlaveSpec : ChangeSpec := { name := "serverSlave", fn := fun _ => fun
  | [d1, d2] => { results := [.lit (.bool true)], args := [d1, d2] }
  | _ => none }
def serverSlaveRow : OpenClaim := { program := "ytmelkboejkoiiaa", sum := "6da3bd30c56edf0993dbce4e59b2a539df7f785e3be584e8f98cbd8dde52fd78", func := "modscan/modscanlaw23.ServerSlave", spec := "serverSlave", apart := false }
def ServerSlaveSaid : Prop := serverSlaveRow.holds Try.pinned (OpenSpec.ofChange serverSlaveSpec)

/-- ITS FALSE NEIGHBOUR: 'it returns false'. Refute it at one input. -/
def serverSlaveWrong : ChangeSpec := { name := "serverSlave", fn := fun _ => fun
  | [d1, d2] => { results := [.lit (.bool false)], args := [d1, d2] }
  | _ => none }
def ServerSlaveWrongFalsely : Prop := serverSlaveRow.holds Try.pinned (OpenSpec.ofChange serverSlaveWrong)

/- THE SECOND FORM. 'bulk': how many values and letters a reading holds, each counted each time it is reached (what is shared counts as often as it is met; a slice's spare places count too). A statement '..UptoSaid' is the law's where the arguments, and the package variables that the reading takes, are together of bulk at most 1048576: NARROWER than '..Said'. Prove '..Said' where nothing that the law and all that it calls make is longer than what came in: it says more and counts as full. Else prove '..UptoSaid'. A law counts once. -/
mutual
def uptoBulk {H : Type} : DataW H → Nat
  | .lit (.string bytes) => bytes.length + 1
  | .lit _ => 1
  | .nil => 1
  | .ptr d => uptoBulk d + 1
  | .slice elems spare => uptoBulkAll elems + uptoBulkAll spare + 1
  | .agg parts => uptoBulkAll parts + 1
  | .iface _ d => uptoBulk d + 1
  | .map entries => uptoBulkEntries entries + 1
  | .held _ => 1
def uptoBulkAll {H : Type} : List (DataW H) → Nat
  | [] => 0
  | d :: r => uptoBulk d + uptoBulkAll r
def uptoBulkEntries {H : Type} : List (Lit × DataW H) → Nat
  | [] => 0
  | x :: r => uptoBulkEntry x + uptoBulkEntries r
def uptoBulkEntry {H : Type} : Lit × DataW H → Nat
  | (.string bytes, d) => bytes.length + uptoBulk d + 1
  | (_, d) => uptoBulk d + 1
 end
def uptoSmall : (H : Type) → List (DataW H) → Bool := fun _ ds => decide (uptoBulkAll ds ≤ 1048576)
def OpenSpec.upto (s : _root_.Go.ChangeSpec) : _root_.Go.OpenSpec := { _root_.Go.OpenSpec.ofChange s with cond := some uptoSmall }

/-- 'modscanlaw23.ServerResult', WHERE WHAT IT READS IS OF BULK AT MOST 1048576: true; the input reads as it did. -/
def serverResultUptoRow : OpenClaim := { program := "ytmelkboejkoiiaa", sum := "6da3bd30c56edf0993dbce4e59b2a539df7f785e3be584e8f98cbd8dde52fd78", func := "modscan/modscanlaw23.ServerResult", spec := "serverResult", apart := false, narrowed := true }
def ServerResultUptoSaid : Prop := serverResultUptoRow.holds Try.pinned (OpenSpec.upto serverResultSpec)

/-- 'modscanlaw23.ServerOwn', WHERE WHAT IT READS IS OF BULK AT MOST 1048576: true; the input reads as it did. -/
def serverOwnUptoRow : OpenClaim := { program := "ytmelkboejkoiiaa", sum := "6da3bd30c56edf0993dbce4e59b2a539df7f785e3be584e8f98cbd8dde52fd78", func := "modscan/modscanlaw23.ServerOwn", spec := "serverOwn", apart := false, narrowed := true }
def ServerOwnUptoSaid : Prop := serverOwnUptoRow.holds Try.pinned (OpenSpec.upto serverOwnSpec)

/-- 'modscanlaw23.ServerSlave', WHERE WHAT IT READS IS OF BULK AT MOST 1048576: true; the input reads as it did. -/
def serverSlaveUptoRow : OpenClaim := { program := "ytmelkboejkoiiaa", sum := "6da3bd30c56edf0993dbce4e59b2a539df7f785e3be584e8f98cbd8dde52fd78", func := "modscan/modscanlaw23.ServerSlave", spec := "serverSlave", apart := false, narrowed := true }
def ServerSlaveUptoSaid : Prop := serverSlaveUptoRow.holds Try.pinned (OpenSpec.upto serverSlaveSpec)

end Rows
end Go.Proofs.Ytmelkboejkoiiaa

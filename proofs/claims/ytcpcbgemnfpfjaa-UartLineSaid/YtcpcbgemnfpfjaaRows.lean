/-
  No cell of these rows narrows 'for every input' (looked for: loops, veiled, ifaces, maps, wideKeys, modest, calm, conditions, laid).
  DERIVED. THE GIVEN ROWS OF THIS SEAT. 6 by the template 'for every input the law returns true; each argument reads behind the call as it read before'; 0 by the template 'total and deterministic' (their statements: YtcpcbgemnfpfjaaTotals.lean).
  GIVEN WITH THE SEED: the statements are not yours to turn. If you find one false, say at which input.
  Laid BY PROGRAM, IN A SANDBOX (cutbox-rows.mjs): the forced cells as the released guide's own fill.sh prints them over the translation b36534365a41a905… (all of the seat's roots in one cut). By AI agents, Wed Nov 11 2026. No macro, syntax, notation, axiom, sorry.
-/
import Derived.Test.YtcpcbgemnfpfjaaChecked
import GoSem.Claim
import GoSem.ClaimJoined
import GoSem.ClaimMapViews
import Derived.JoinedTies
import Derived.KernelRfl
namespace Go.Proofs.Ytcpcbgemnfpfjaa
/- THE CELL 'sum', in the pinned program and in every row, IS THE sha256 OF THE DUMP (.gsa) THAT YtcpcbgemnfpfjaaProg.lean LOADS. Nothing in Lean hashes anything: it is a label: what it is worth is what the hold of that sum in a sandbox is worth. -/
noncomputable def Try.pinned : Pinned := { name := "ytcpcbgemnfpfjaa", sum := "b36534365a41a9052dbf124f166d92d1e73c77bfe364c209ef4092dd39dbb53d", checked := Try.checked }
namespace Rows
def none {H : Type} : Left H := { results := [], args := [] }

/-- 'modscanlaw07.UartRound': WHATEVER THE INPUT: true; the input reads as it did. -/
def uartRoundSpec : ChangeSpec := { name := "uartRound", fn := fun _ => fun
  | [d1, d2] => { results := [.lit (.bool true)], args := [d1, d2] }
  | _ => none }
def uartRoundRow : OpenClaim := { program := "ytcpcbgemnfpfjaa", sum := "b36534365a41a9052dbf124f166d92d1e73c77bfe364c209ef4092dd39dbb53d", func := "modscan/modscanlaw07.UartRound", spec := "uartRound", apart := false }
def UartRoundSaid : Prop := uartRoundRow.holds Try.pinned (OpenSpec.ofChange uartRoundSpec)

/-- ITS FALSE NEIGHBOUR: 'it returns false'. Refute it at one input. -/
def uartRoundWrong : ChangeSpec := { name := "uartRound", fn := fun _ => fun
  | [d1, d2] => { results := [.lit (.bool false)], args := [d1, d2] }
  | _ => none }
def UartRoundWrongFalsely : Prop := uartRoundRow.holds Try.pinned (OpenSpec.ofChange uartRoundWrong)

/-- 'modscanlaw07.UartDecode': WHATEVER THE INPUT: true; the input reads as it did. -/
def uartDecodeSpec : ChangeSpec := { name := "uartDecode", fn := fun _ => fun
  | [d1, d2] => { results := [.lit (.bool true)], args := [d1, d2] }
  | _ => none }
def uartDecodeRow : OpenClaim := { program := "ytcpcbgemnfpfjaa", sum := "b36534365a41a9052dbf124f166d92d1e73c77bfe364c209ef4092dd39dbb53d", func := "modscan/modscanlaw07.UartDecode", spec := "uartDecode", apart := false }
def UartDecodeSaid : Prop := uartDecodeRow.holds Try.pinned (OpenSpec.ofChange uartDecodeSpec)

/-- ITS FALSE NEIGHBOUR: 'it returns false'. Refute it at one input. -/
def uartDecodeWrong : ChangeSpec := { name := "uartDecode", fn := fun _ => fun
  | [d1, d2] => { results := [.lit (.bool false)], args := [d1, d2] }
  | _ => none }
def UartDecodeWrongFalsely : Prop := uartDecodeRow.holds Try.pinned (OpenSpec.ofChange uartDecodeWrong)

/-- 'modscanlaw07.UartFlip': WHATEVER THE INPUT: true; the input reads as it did. -/
def uartFlipSpec : ChangeSpec := { name := "uartFlip", fn := fun _ => fun
  | [d1, d2, d3] => { results := [.lit (.bool true)], args := [d1, d2, d3] }
  | _ => none }
def uartFlipRow : OpenClaim := { program := "ytcpcbgemnfpfjaa", sum := "b36534365a41a9052dbf124f166d92d1e73c77bfe364c209ef4092dd39dbb53d", func := "modscan/modscanlaw07.UartFlip", spec := "uartFlip", apart := false }
def UartFlipSaid : Prop := uartFlipRow.holds Try.pinned (OpenSpec.ofChange uartFlipSpec)

/-- ITS FALSE NEIGHBOUR: 'it returns false'. Refute it at one input. -/
def uartFlipWrong : ChangeSpec := { name := "uartFlip", fn := fun _ => fun
  | [d1, d2, d3] => { results := [.lit (.bool false)], args := [d1, d2, d3] }
  | _ => none }
def UartFlipWrongFalsely : Prop := uartFlipRow.holds Try.pinned (OpenSpec.ofChange uartFlipWrong)

/-- 'modscanlaw07.UartMismatch': WHATEVER THE INPUT: true; the input reads as it did. -/
def uartMismatchSpec : ChangeSpec := { name := "uartMismatch", fn := fun _ => fun
  | [d1, d2] => { results := [.lit (.bool true)], args := [d1, d2] }
  | _ => none }
def uartMismatchRow : OpenClaim := { program := "ytcpcbgemnfpfjaa", sum := "b36534365a41a9052dbf124f166d92d1e73c77bfe364c209ef4092dd39dbb53d", func := "modscan/modscanlaw07.UartMismatch", spec := "uartMismatch", apart := false }
def UartMismatchSaid : Prop := uartMismatchRow.holds Try.pinned (OpenSpec.ofChange uartMismatchSpec)

/-- ITS FALSE NEIGHBOUR: 'it returns false'. Refute it at one input. -/
def uartMismatchWrong : ChangeSpec := { name := "uartMismatch", fn := fun _ => fun
  | [d1, d2] => { results := [.lit (.bool false)], args := [d1, d2] }
  | _ => none }
def UartMismatchWrongFalsely : Prop := uartMismatchRow.holds Try.pinned (OpenSpec.ofChange uartMismatchWrong)

/-- 'modscanlaw07.UartStream': WHATEVER THE INPUT: true; the input reads as it did. -/
def uartStreamSpec : ChangeSpec := { name := "uartStream", fn := fun _ => fun
  | [d1, d2] => { results := [.lit (.bool true)], args := [d1, d2] }
  | _ => none }
def uartStreamRow : OpenClaim := { program := "ytcpcbgemnfpfjaa", sum := "b36534365a41a9052dbf124f166d92d1e73c77bfe364c209ef4092dd39dbb53d", func := "modscan/modscanlaw07.UartStream", spec := "uartStream", apart := false }
def UartStreamSaid : Prop := uartStreamRow.holds Try.pinned (OpenSpec.ofChange uartStreamSpec)

/-- ITS FALSE NEIGHBOUR: 'it returns false'. Refute it at one input. -/
def uartStreamWrong : ChangeSpec := { name := "uartStream", fn := fun _ => fun
  | [d1, d2] => { results := [.lit (.bool false)], args := [d1, d2] }
  | _ => none }
def UartStreamWrongFalsely : Prop := uartStreamRow.holds Try.pinned (OpenSpec.ofChange uartStreamWrong)

/-- 'modscanlaw07.UartLine': WHATEVER THE INPUT: true; the input reads as it did. -/
def uartLineSpec : ChangeSpec := { name := "uartLine", fn := fun _ => fun
  | [d1, d2, d3] => { results := [.lit (.bool true)], args := [d1, d2, d3] }
  | _ => none }
def uartLineRow : OpenClaim := { program := "ytcpcbgemnfpfjaa", sum := "b36534365a41a9052dbf124f166d92d1e73c77bfe364c209ef4092dd39dbb53d", func := "modscan/modscanlaw07.UartLine", spec := "uartLine", apart := false }
def UartLineSaid : Prop := uartLineRow.holds Try.pinned (OpenSpec.ofChange uartLineSpec)

/-- ITS FALSE NEIGHBOUR: 'it returns false'. Refute it at one input. -/
def uartLineWrong : ChangeSpec := { name := "uartLine", fn := fun _ => fun
  | [d1, d2, d3] => { results := [.lit (.bool false)], args := [d1, d2, d3] }
  | _ => none }
def UartLineWrongFalsely : Prop := uartLineRow.holds Try.pinned (OpenSpec.ofChange uartLineWrong)

/- THE SECOND FORM. 'bulk': how many values and letters a reading holds, each counted each time it is reached (what is shared counts as often as it is met; a slice's spare places count too). A statement '..UptoSaid' is the law's where the arguments, and the package variables that the reading takes, are together of bulk at most 1048576: NARROWER than '..Said'. Prove '..Said' where nothing that the law and all that it calls make is longer than what came in: it says more and counts as full. Else prove '..UptoSaid'. A law counts once. -/
mutual
def uptoBulk {H : Type} : DataW H → Nat
  | .lit (.string bytes) => bytes.length + 1
  | .lit _ => 1
  | .nil => 1
  | .ptr d => uptoBulk d + 1
  | .slice elems spare => uptoBulkAll elems + uptoBulkAll spare + 1
  | .agg parts => uptoBulkAll parts + 1
  | .iface _ d => uptoBulk d + 1
  | .map entries => uptoBulkEntries entries + 1
  | .held _ => 1
def uptoBulkAll {H : Type} : List (DataW H) → Nat
  | [] => 0
  | d :: r => uptoBulk d + uptoBulkAll r
def uptoBulkEntries {H : Type} : List (Lit × DataW H) → Nat
  | [] => 0
  | x :: r => uptoBulkEntry x + uptoBulkEntries r
def uptoBulkEntry {H : Type} : Lit × DataW H → Nat
  | (.string bytes, d) => bytes.length + uptoBulk d + 1
  | (_, d) => uptoBulk d + 1
 end
def uptoSmall : (H : Type) → List (DataW H) → Bool := fun _ ds => decide (uptoBulkAll ds ≤ 1048576)
def OpenSpec.upto (s : _root_.Go.ChangeSpec) : _root_.Go.OpenSpec := { _root_.Go.OpenSpec.ofChange s with cond := some uptoSmall }

/-- 'modscanlaw07.UartRound', WHERE WHAT IT READS IS OF BULK AT MOST 1048576: true; the input reads as it did. -/
def uartRoundUptoRow : OpenClaim := { program := "ytcpcbgemnfpfjaa", sum := "b36534365a41a9052dbf124f166d92d1e73c77bfe364c209ef4092dd39dbb53d", func := "modscan/modscanlaw07.UartRound", spec := "uartRound", apart := false, narrowed := true }
def UartRoundUptoSaid : Prop := uartRoundUptoRow.holds Try.pinned (OpenSpec.upto uartRoundSpec)

/-- 'modscanlaw07.UartDecode', WHERE WHAT IT READS IS OF BULK AT MOST 1048576: true; the input reads as it did. -/
def uartDecodeUptoRow : OpenClaim := { program := "ytcpcbgemnfpfjaa", sum := "b36534365a41a9052dbf124f166d92d1e73c77bfe364c209ef4092dd39dbb53d", func := "modscan/modscanlaw07.UartDecode", spec := "uartDecode", apart := false, narrowed := true }
def UartDecodeUptoSaid : Prop := uartDecodeUptoRow.holds Try.pinned (OpenSpec.upto uartDecodeSpec)

/-- 'modscanlaw07.UartFlip', WHERE WHAT IT READS IS OF BULK AT MOST 1048576: true; the input reads as it did. -/
def uartFlipUptoRow : OpenClaim := { program := "ytcpcbgemnfpfjaa", sum := "b36534365a41a9052dbf124f166d92d1e73c77bfe364c209ef4092dd39dbb53d", func := "modscan/modscanlaw07.UartFlip", spec := "uartFlip", apart := false, narrowed := true }
def UartFlipUptoSaid : Prop := uartFlipUptoRow.holds Try.pinned (OpenSpec.upto uartFlipSpec)

/-- 'modscanlaw07.UartMismatch', WHERE WHAT IT READS IS OF BULK AT MOST 1048576: true; the input reads as it did. -/
def uartMismatchUptoRow : OpenClaim := { program := "ytcpcbgemnfpfjaa", sum := "b36534365a41a9052dbf124f166d92d1e73c77bfe364c209ef4092dd39dbb53d", func := "modscan/modscanlaw07.UartMismatch", spec := "uartMismatch", apart := false, narrowed := true }
def UartMismatchUptoSaid : Prop := uartMismatchUptoRow.holds Try.pinned (OpenSpec.upto uartMismatchSpec)

/-- 'modscanlaw07.UartStream', WHERE WHAT IT READS IS OF BULK AT MOST 1048576: true; the input reads as it did. -/
def uartStreamUptoRow : OpenClaim := { program := "ytcpcbgemnfpfjaa", sum := "b36534365a41a9052dbf124f166d92d1e73c77bfe364c209ef4092dd39dbb53d", func := "modscan/modscanlaw07.UartStream", spec := "uartStream", apart := false, narrowed := true }
def UartStreamUptoSaid : Prop := uartStreamUptoRow.holds Try.pinned (OpenSpec.upto uartStreamSpec)

/-- 'modscanlaw07.UartLine', WHERE WHAT IT READS IS OF BULK AT MOST 1048576: true; the input reads as it did. -/
def uartLineUptoRow : OpenClaim := { program := "ytcpcbgemnfpfjaa", sum := "b36534365a41a9052dbf124f166d92d1e73c77bfe364c209ef4092dd39dbb53d", func := "modscan/modscanlaw07.UartLine", spec := "uartLine", apart := false, narrowed := true }
def UartLineUptoSaid : Prop := uartLineUptoRow.holds Try.pinned (OpenSpec.upto uartLineSpec)

end Rows
end Go.Proofs.Ytcpcbgemnfpfjaa

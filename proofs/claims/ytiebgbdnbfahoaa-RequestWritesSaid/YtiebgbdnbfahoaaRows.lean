/-
  No cell of these rows narrows 'for every input' (looked for: loops, veiled, ifaces, maps, wideKeys, modest, calm, conditions, laid).
  DERIVED. THE GIVEN ROWS OF THIS SEAT. 5 by the template 'for every input the law returns true; each argument reads behind the call as it read before'; 0 by the template 'total and deterministic' (their statements: YtiebgbdnbfahoaaTotals.lean).
  GIVEN WITH THE SEED: the statements are not yours to turn. If you find one false, say at which input.
  Laid BY PROGRAM, IN A SANDBOX (cutbox-rows.mjs): the forced cells as the released guide's own fill.sh prints them over the translation 3ed31c436b77d49a… (all of the seat's roots in one cut). By AI agents, Wed Nov 11 2026. No macro, syntax, notation, axiom, sorry.
-/
import Derived.Test.YtiebgbdnbfahoaaChecked
import GoSem.Claim
import GoSem.ClaimJoined
import GoSem.ClaimMapViews
import Derived.JoinedTies
import Derived.KernelRfl
namespace Go.Proofs.Ytiebgbdnbfahoaa
/- THE CELL 'sum', in the pinned program and in every row, IS THE sha256 OF THE DUMP (.gsa) THAT YtiebgbdnbfahoaaProg.lean LOADS. Nothing in Lean hashes anything: it is a label: what it is worth is what the hold of that sum in a sandbox is worth. -/
noncomputable def Try.pinned : Pinned := { name := "ytiebgbdnbfahoaa", sum := "3ed31c436b77d49ac90c583be935f86b2d804437d6d979ed950cbf65ded28c5f", checked := Try.checked }
namespace Rows
def none {H : Type} : Left H := { results := [], args := [] }

/-- 'modscanlaw10.RequestValid': WHATEVER THE INPUT: true; the input reads as it did. -/
def requestValidSpec : ChangeSpec := { name := "requestValid", fn := fun _ => fun
  | [d1, d2] => { results := [.lit (.bool true)], args := [d1, d2] }
  | _ => none }
def requestValidRow : OpenClaim := { program := "ytiebgbdnbfahoaa", sum := "3ed31c436b77d49ac90c583be935f86b2d804437d6d979ed950cbf65ded28c5f", func := "modscan/modscanlaw10.RequestValid", spec := "requestValid", apart := false }
def RequestValidSaid : Prop := requestValidRow.holds Try.pinned (OpenSpec.ofChange requestValidSpec)

/-- ITS FALSE NEIGHBOUR: 'it returns false'. Refute it at one input. -/
def requestValidWrong : ChangeSpec := { name := "requestValid", fn := fun _ => fun
  | [d1, d2] => { results := [.lit (.bool false)], args := [d1, d2] }
  | _ => none }
def RequestValidWrongFalsely : Prop := requestValidRow.holds Try.pinned (OpenSpec.ofChange requestValidWrong)

/-- 'modscanlaw10.RequestEncode': WHATEVER THE INPUT: true; the input reads as it did. -/
def requestEncodeSpec : ChangeSpec := { name := "requestEncode", fn := fun _ => fun
  | [d1, d2, d3, d4, d5] => { results := [.lit (.bool true)], args := [d1, d2, d3, d4, d5] }
  | _ => none }
def requestEncodeRow : OpenClaim := { program := "ytiebgbdnbfahoaa", sum := "3ed31c436b77d49ac90c583be935f86b2d804437d6d979ed950cbf65ded28c5f", func := "modscan/modscanlaw10.RequestEncode", spec := "requestEncode", apart := false }
def RequestEncodeSaid : Prop := requestEncodeRow.holds Try.pinned (OpenSpec.ofChange requestEncodeSpec)

/-- ITS FALSE NEIGHBOUR: 'it returns false'. Refute it at one input. -/
def requestEncodeWrong : ChangeSpec := { name := "requestEncode", fn := fun _ => fun
  | [d1, d2, d3, d4, d5] => { results := [.lit (.bool false)], args := [d1, d2, d3, d4, d5] }
  | _ => none }
def RequestEncodeWrongFalsely : Prop := requestEncodeRow.holds Try.pinned (OpenSpec.ofChange requestEncodeWrong)

/-- 'modscanlaw10.RequestDecode': WHATEVER THE INPUT: true; the input reads as it did. -/
def requestDecodeSpec : ChangeSpec := { name := "requestDecode", fn := fun _ => fun
  | [d] => { results := [.lit (.bool true)], args := [d] }
  | _ => none }
def requestDecodeRow : OpenClaim := { program := "ytiebgbdnbfahoaa", sum := "3ed31c436b77d49ac90c583be935f86b2d804437d6d979ed950cbf65ded28c5f", func := "modscan/modscanlaw10.RequestDecode", spec := "requestDecode", apart := false }
def RequestDecodeSaid : Prop := requestDecodeRow.holds Try.pinned (OpenSpec.ofChange requestDecodeSpec)

/-- ITS FALSE NEIGHBOUR: 'it returns false'. Refute it at one input. -/
def requestDecodeWrong : ChangeSpec := { name := "requestDecode", fn := fun _ => fun
  | [d] => { results := [.lit (.bool false)], args := [d] }
  | _ => none }
def RequestDecodeWrongFalsely : Prop := requestDecodeRow.holds Try.pinned (OpenSpec.ofChange requestDecodeWrong)

/-- 'modscanlaw10.RequestReads': WHATEVER THE INPUT: true; the input reads as it did. -/
def requestReadsSpec : ChangeSpec := { name := "requestReads", fn := fun _ => fun
  | [d1, d2, d3, d4, d5] => { results := [.lit (.bool true)], args := [d1, d2, d3, d4, d5] }
  | _ => none }
def requestReadsRow : OpenClaim := { program := "ytiebgbdnbfahoaa", sum := "3ed31c436b77d49ac90c583be935f86b2d804437d6d979ed950cbf65ded28c5f", func := "modscan/modscanlaw10.RequestReads", spec := "requestReads", apart := false }
def RequestReadsSaid : Prop := requestReadsRow.holds Try.pinned (OpenSpec.ofChange requestReadsSpec)

/-- ITS FALSE NEIGHBOUR: 'it returns false'. Refute it at one input. -/
def requestReadsWrong : ChangeSpec := { name := "requestReads", fn := fun _ => fun
  | [d1, d2, d3, d4, d5] => { results := [.lit (.bool false)], args := [d1, d2, d3, d4, d5] }
  | _ => none }
def RequestReadsWrongFalsely : Prop := requestReadsRow.holds Try.pinned (OpenSpec.ofChange requestReadsWrong)

/-- 'modscanlaw10.RequestWrites': WHATEVER THE INPUT: true; the input reads as it did. -/
def requestWritesSpec : ChangeSpec := { name := "requestWrites", fn := fun _ => fun
  | [d1, d2] => { results := [.lit (.bool true)], args := [d1, d2] }
  | _ => none }
def requestWritesRow : OpenClaim := { program := "ytiebgbdnbfahoaa", sum := "3ed31c436b77d49ac90c583be935f86b2d804437d6d979ed950cbf65ded28c5f", func := "modscan/modscanlaw10.RequestWrites", spec := "requestWrites", apart := false }
def RequestWritesSaid : Prop := requestWritesRow.holds Try.pinned (OpenSpec.ofChange requestWritesSpec)

/-- ITS FALSE NEIGHBOUR: 'it returns false'. Refute it at one input. -/
def requestWritesWrong : ChangeSpec := { name := "requestWrites", fn := fun _ => fun
  | [d1, d2] => { results := [.lit (.bool false)], args := [d1, d2] }
  | _ => none }
def RequestWritesWrongFalsely : Prop := requestWritesRow.holds Try.pinned (OpenSpec.ofChange requestWritesWrong)

/- THE SECOND FORM. 'bulk': how many values and letters a reading holds, each counted each time it is reached (what is shared counts as often as it is met; a slice's spare places count too). A statement '..UptoSaid' is the law's where the arguments, and the package variables that the reading takes, are together of bulk at most 1048576: NARROWER than '..Said'. Prove '..Said' where nothing that the law and all that it calls make is longer than what came in: it says more and counts as full. Else prove '..UptoSaid'. A law counts once. -/
mutual
def uptoBulk {H : Type} : DataW H → Nat
  | .lit (.string bytes) => bytes.length + 1
  | .lit _ => 1
  | .nil => 1
  | .ptr d => uptoBulk d + 1
  | .slice elems spare => uptoBulkAll elems + uptoBulkAll spare + 1
  | .agg parts => uptoBulkAll parts + 1
  | .iface _ d => uptoBulk d + 1
  | .map entries => uptoBulkEntries entries + 1
  | .held _ => 1
def uptoBulkAll {H : Type} : List (DataW H) → Nat
  | [] => 0
  | d :: r => uptoBulk d + uptoBulkAll r
def uptoBulkEntries {H : Type} : List (Lit × DataW H) → Nat
  | [] => 0
  | x :: r => uptoBulkEntry x + uptoBulkEntries r
def uptoBulkEntry {H : Type} : Lit × DataW H → Nat
  | (.string bytes, d) => bytes.length + uptoBulk d + 1
  | (_, d) => uptoBulk d + 1
 end
def uptoSmall : (H : Type) → List (DataW H) → Bool := fun _ ds => decide (uptoBulkAll ds ≤ 1048576)
def OpenSpec.upto (s : _root_.Go.ChangeSpec) : _root_.Go.OpenSpec := { _root_.Go.OpenSpec.ofChange s with cond := some uptoSmall }

/-- 'modscanlaw10.RequestValid', WHERE WHAT IT READS IS OF BULK AT MOST 1048576: true; the input reads as it did. -/
def requestValidUptoRow : OpenClaim := { program := "ytiebgbdnbfahoaa", sum := "3ed31c436b77d49ac90c583be935f86b2d804437d6d979ed950cbf65ded28c5f", func := "modscan/modscanlaw10.RequestValid", spec := "requestValid", apart := false, narrowed := true }
def RequestValidUptoSaid : Prop := requestValidUptoRow.holds Try.pinned (OpenSpec.upto requestValidSpec)

/-- 'modscanlaw10.RequestEncode', WHERE WHAT IT READS IS OF BULK AT MOST 1048576: true; the input reads as it did. -/
def requestEncodeUptoRow : OpenClaim := { program := "ytiebgbdnbfahoaa", sum := "3ed31c436b77d49ac90c583be935f86b2d804437d6d979ed950cbf65ded28c5f", func := "modscan/modscanlaw10.RequestEncode", spec := "requestEncode", apart := false, narrowed := true }
def RequestEncodeUptoSaid : Prop := requestEncodeUptoRow.holds Try.pinned (OpenSpec.upto requestEncodeSpec)

/-- 'modscanlaw10.RequestDecode', WHERE WHAT IT READS IS OF BULK AT MOST 1048576: true; the input reads as it did. -/
def requestDecodeUptoRow : OpenClaim := { program := "ytiebgbdnbfahoaa", sum := "3ed31c436b77d49ac90c583be935f86b2d804437d6d979ed950cbf65ded28c5f", func := "modscan/modscanlaw10.RequestDecode", spec := "requestDecode", apart := false, narrowed := true }
def RequestDecodeUptoSaid : Prop := requestDecodeUptoRow.holds Try.pinned (OpenSpec.upto requestDecodeSpec)

/-- 'modscanlaw10.RequestReads', WHERE WHAT IT READS IS OF BULK AT MOST 1048576: true; the input reads as it did. -/
def requestReadsUptoRow : OpenClaim := { program := "ytiebgbdnbfahoaa", sum := "3ed31c436b77d49ac90c583be935f86b2d804437d6d979ed950cbf65ded28c5f", func := "modscan/modscanlaw10.RequestReads", spec := "requestReads", apart := false, narrowed := true }
def RequestReadsUptoSaid : Prop := requestReadsUptoRow.holds Try.pinned (OpenSpec.upto requestReadsSpec)

/-- 'modscanlaw10.RequestWrites', WHERE WHAT IT READS IS OF BULK AT MOST 1048576: true; the input reads as it did. -/
def requestWritesUptoRow : OpenClaim := { program := "ytiebgbdnbfahoaa", sum := "3ed31c436b77d49ac90c583be935f86b2d804437d6d979ed950cbf65ded28c5f", func := "modscan/modscanlaw10.RequestWrites", spec := "requestWrites", apart := false, narrowed := true }
def RequestWritesUptoSaid : Prop := requestWritesUptoRow.holds Try.pinned (OpenSpec.upto requestWritesSpec)

end Rows
end Go.Proofs.Ytiebgbdnbfahoaa

/-
  No cell of these rows narrows 'for every input' (looked for: loops, veiled, ifaces, maps, wideKeys, modest, calm, conditions, laid).
  DERIVED. THE GIVEN ROWS OF THIS SEAT. 4 by the template 'for every input the law returns true; each argument reads behind the call as it read before'; 0 by the template 'total and deterministic' (their statements: YtjpljjhnjholdaaTotals.lean).
  GIVEN WITH THE SEED: the statements are not yours to turn. If you find one false, say at which input.
  Laid BY PROGRAM, IN A SANDBOX (cutbox-rows.mjs): the forced cells as the released guide's own fill.sh prints them over the translation 7b1d61ef7d14711d… (all of the seat's roots in one cut). By AI agents, Wed Nov 11 2026. No macro, syntax, notation, axiom, sorry.
-/
import Derived.Test.YtjpljjhnjholdaaChecked
import GoSem.Claim
import GoSem.ClaimJoined
import GoSem.ClaimMapViews
import Derived.JoinedTies
import Derived.KernelRfl
namespace Go.Proofs.Ytjpljjhnjholdaa
/- THE CELL 'sum', in the pinned program and in every row, IS THE sha256 OF THE DUMP (.gsa) THAT YtjpljjhnjholdaaProg.lean LOADS. Nothing in Lean hashes anything: it is a label: what it is worth is what the hold of that sum in a sandbox is worth. -/
noncomputable def Try.pinned : Pinned := { name := "ytjpljjhnjholdaa", sum := "7b1d61ef7d14711d2fdb7a1ad5a6f47fc60d57d27c08ae8cce783390427c30ca", checked := Try.checked }
namespace Rows
def none {H : Type} : Left H := { results := [], args := [] }

/-- 'modscanlaw18.BudgetNumbers': WHATEVER THE INPUT: true; the input reads as it did. -/
def budgetNumbersSpec : ChangeSpec := { name := "budgetNumbers", fn := fun _ => fun
  | [d1, d2, d3, d4, d5, d6] => { results := [.lit (.bool true)], args := [d1, d2, d3, d4, d5, d6] }
  | _ => none }
def budgetNumbersRow : OpenClaim := { program := "ytjpljjhnjholdaa", sum := "7b1d61ef7d14711d2fdb7a1ad5a6f47fc60d57d27c08ae8cce783390427c30ca", func := "modscan/modscanlaw18.BudgetNumbers", spec := "budgetNumbers", apart := false }
def BudgetNumbersSaid : Prop := budgetNumbersRow.holds Try.pinned (OpenSpec.ofChange budgetNumbersSpec)

/-- ITS FALSE NEIGHBOUR: 'it returns false'. Refute it at one input. -/
def budgetNumbersWrong : ChangeSpec := { name := "budgetNumbers", fn := fun _ => fun
  | [d1, d2, d3, d4, d5, d6] => { results := [.lit (.bool false)], args := [d1, d2, d3, d4, d5, d6] }
  | _ => none }
def BudgetNumbersWrongFalsely : Prop := budgetNumbersRow.holds Try.pinned (OpenSpec.ofChange budgetNumbersWrong)

/-- 'modscanlaw18.BudgetLog2': WHATEVER THE INPUT: true; the input reads as it did. -/
def budgetLog2Spec : ChangeSpec := { name := "budgetLog2", fn := fun _ => fun
  | [d] => { results := [.lit (.bool true)], args := [d] }
  | _ => none }
def budgetLog2Row : OpenClaim := { program := "ytjpljjhnjholdaa", sum := "7b1d61ef7d14711d2fdb7a1ad5a6f47fc60d57d27c08ae8cce783390427c30ca", func := "modscan/modscanlaw18.BudgetLog2", spec := "budgetLog2", apart := false }
def BudgetLog2Said : Prop := budgetLog2Row.holds Try.pinned (OpenSpec.ofChange budgetLog2Spec)

/-- ITS FALSE NEIGHBOUR: 'it returns false'. Refute it at one input. -/
def budgetLog2Wrong : ChangeSpec := { name := "budgetLog2", fn := fun _ => fun
  | [d] => { results := [.lit (.bool false)], args := [d] }
  | _ => none }
def BudgetLog2WrongFalsely : Prop := budgetLog2Row.holds Try.pinned (OpenSpec.ofChange budgetLog2Wrong)

/-- 'modscanlaw18.BudgetGrows': WHATEVER THE INPUT: true; the input reads as it did. -/
def budgetGrowsSpec : ChangeSpec := { name := "budgetGrows", fn := fun _ => fun
  | [d] => { results := [.lit (.bool true)], args := [d] }
  | _ => none }
def budgetGrowsRow : OpenClaim := { program := "ytjpljjhnjholdaa", sum := "7b1d61ef7d14711d2fdb7a1ad5a6f47fc60d57d27c08ae8cce783390427c30ca", func := "modscan/modscanlaw18.BudgetGrows", spec := "budgetGrows", apart := false }
def BudgetGrowsSaid : Prop := budgetGrowsRow.holds Try.pinned (OpenSpec.ofChange budgetGrowsSpec)

/-- ITS FALSE NEIGHBOUR: 'it returns false'. Refute it at one input. -/
def budgetGrowsWrong : ChangeSpec := { name := "budgetGrows", fn := fun _ => fun
  | [d] => { results := [.lit (.bool false)], args := [d] }
  | _ => none }
def BudgetGrowsWrongFalsely : Prop := budgetGrowsRow.holds Try.pinned (OpenSpec.ofChange budgetGrowsWrong)

/-- 'modscanlaw18.BudgetConfig': WHATEVER THE INPUT: true; the input reads as it did. -/
def budgetConfigSpec : ChangeSpec := { name := "budgetConfig", fn := fun _ => fun
  | [d] => { results := [.lit (.bool true)], args := [d] }
  | _ => none }
def budgetConfigRow : OpenClaim := { program := "ytjpljjhnjholdaa", sum := "7b1d61ef7d14711d2fdb7a1ad5a6f47fc60d57d27c08ae8cce783390427c30ca", func := "modscan/modscanlaw18.BudgetConfig", spec := "budgetConfig", apart := false }
def BudgetConfigSaid : Prop := budgetConfigRow.holds Try.pinned (OpenSpec.ofChange budgetConfigSpec)

/-- ITS FALSE NEIGHBOUR: 'it returns false'. Refute it at one input. -/
def budgetConfigWrong : ChangeSpec := { name := "budgetConfig", fn := fun _ => fun
  | [d] => { results := [.lit (.bool false)], args := [d] }
  | _ => none }
def BudgetConfigWrongFalsely : Prop := budgetConfigRow.holds Try.pinned (OpenSpec.ofChange budgetConfigWrong)

/- THE SECOND FORM. 'bulk': how many values and letters a reading holds, each counted each time it is reached (what is shared counts as often as it is met; a slice's spare places count too). A statement '..UptoSaid' is the law's where the arguments, and the package variables that the reading takes, are together of bulk at most 1048576: NARROWER than '..Said'. Prove '..Said' where nothing that the law and all that it calls make is longer than what came in: it says more and counts as full. Else prove '..UptoSaid'. A law counts once. -/
mutual
def uptoBulk {H : Type} : DataW H → Nat
  | .lit (.string bytes) => bytes.length + 1
  | .lit _ => 1
  | .nil => 1
  | .ptr d => uptoBulk d + 1
  | .slice elems spare => uptoBulkAll elems + uptoBulkAll spare + 1
  | .agg parts => uptoBulkAll parts + 1
  | .iface _ d => uptoBulk d + 1
  | .map entries => uptoBulkEntries entries + 1
  | .held _ => 1
def uptoBulkAll {H : Type} : List (DataW H) → Nat
  | [] => 0
  | d :: r => uptoBulk d + uptoBulkAll r
def uptoBulkEntries {H : Type} : List (Lit × DataW H) → Nat
  | [] => 0
  | x :: r => uptoBulkEntry x + uptoBulkEntries r
def uptoBulkEntry {H : Type} : Lit × DataW H → Nat
  | (.string bytes, d) => bytes.length + uptoBulk d + 1
  | (_, d) => uptoBulk d + 1
 end
def uptoSmall : (H : Type) → List (DataW H) → Bool := fun _ ds => decide (uptoBulkAll ds ≤ 1048576)
def OpenSpec.upto (s : _root_.Go.ChangeSpec) : _root_.Go.OpenSpec := { _root_.Go.OpenSpec.ofChange s with cond := some uptoSmall }

/-- 'modscanlaw18.BudgetNumbers', WHERE WHAT IT READS IS OF BULK AT MOST 1048576: true; the input reads as it did. -/
def budgetNumbersUptoRow : OpenClaim := { program := "ytjpljjhnjholdaa", sum := "7b1d61ef7d14711d2fdb7a1ad5a6f47fc60d57d27c08ae8cce783390427c30ca", func := "modscan/modscanlaw18.BudgetNumbers", spec := "budgetNumbers", apart := false, narrowed := true }
def BudgetNumbersUptoSaid : Prop := budgetNumbersUptoRow.holds Try.pinned (OpenSpec.upto budgetNumbersSpec)

/-- 'modscanlaw18.BudgetLog2', WHERE WHAT IT READS IS OF BULK AT MOST 1048576: true; the input reads as it did. -/
def budgetLog2UptoRow : OpenClaim := { program := "ytjpljjhnjholdaa", sum := "7b1d61ef7d14711d2fdb7a1ad5a6f47fc60d57d27c08ae8cce783390427c30ca", func := "modscan/modscanlaw18.BudgetLog2", spec := "budgetLog2", apart := false, narrowed := true }
def BudgetLog2UptoSaid : Prop := budgetLog2UptoRow.holds Try.pinned (OpenSpec.upto budgetLog2Spec)

/-- 'modscanlaw18.BudgetGrows', WHERE WHAT IT READS IS OF BULK AT MOST 1048576: true; the input reads as it did. -/
def budgetGrowsUptoRow : OpenClaim := { program := "ytjpljjhnjholdaa", sum := "7b1d61ef7d14711d2fdb7a1ad5a6f47fc60d57d27c08ae8cce783390427c30ca", func := "modscan/modscanlaw18.BudgetGrows", spec := "budgetGrows", apart := false, narrowed := true }
def BudgetGrowsUptoSaid : Prop := budgetGrowsUptoRow.holds Try.pinned (OpenSpec.upto budgetGrowsSpec)

/-- 'modscanlaw18.BudgetConfig', WHERE WHAT IT READS IS OF BULK AT MOST 1048576: true; the input reads as it did. -/
def budgetConfigUptoRow : OpenClaim := { program := "ytjpljjhnjholdaa", sum := "7b1d61ef7d14711d2fdb7a1ad5a6f47fc60d57d27c08ae8cce783390427c30ca", func := "modscan/modscanlaw18.BudgetConfig", spec := "budgetConfig", apart := false, narrowed := true }
def BudgetConfigUptoSaid : Prop := budgetConfigUptoRow.holds Try.pinned (OpenSpec.upto budgetConfigSpec)

end Rows
end Go.Proofs.Ytjpljjhnjholdaa

/- Layer 18: the law BudgetConfig (printed by budl2.py). -/
import Derived.Test.YtjpljjhnjholdaaBudC1
import Derived.Test.YtjpljjhnjholdaaBudC2
import Derived.Test.YtjpljjhnjholdaaBudC3
import Derived.Test.YtjpljjhnjholdaaBudU
import Derived.Test.YtjpljjhnjholdaaOpenCB
import Derived.Test.YtjpljjhnjholdaaBudL
set_option linter.unusedVariables false
set_option linter.unusedSimpArgs false
namespace Go.Proofs.Ytjpljjhnjholdaa
open Go.RowKit

set_option maxRecDepth 100000 in
set_option maxHeartbeats 4000000 in
theorem lawConfig_any (x : Cf) (A : Option Addr) (n c : Nat) (w : World) (hr : Rd w w.heap.size 2 A n (stCells x.ss)) (hl : x.ss.length = n) (hn : n ≤ maxLen) :
    Calls Try.prog 6 #[cfV A n c x] w fun e w' => e = .returned (.bool true) ∧ Below w.heap.size w w' := by
  by_cases h10 : 10 < n
  · exact lawConfig_1 x A n c w hr hl hn h10
  · by_cases h0 : checkZ x = 0
    · exact lawConfig_2 x A n c w hr hl hn h10 h0
    · exact lawConfig_3 x A n c w hr hl hn h10 h0
end Go.Proofs.Ytjpljjhnjholdaa

/- Requests: the plain words and the reference Limit. -/
import Derived.Test.YtipcnpnfdoainaaRows
import Derived.Test.YtipcnpnfdoainaaLib2
set_option linter.unusedVariables false
set_option linter.unusedSimpArgs false
namespace Go.Proofs.Ytipcnpnfdoainaa
open Go.RowKit

def slimZ (f : Int) : Int := if f = 1 ∨ f = 2 then 2000 else if f = 3 ∨ f = 4 then 125 else 0
abbrev sqv (f a n c o : Int) : Value := .agg #[.int .i64 f, .int .i64 a, .int .i64 n, .int .i64 c, .int .i64 o]
def svq (f a n c o : Int) : Bool :=
  decide ((1 ≤ f ∧ f ≤ 4 ∧ 0 ≤ a ∧ 1 ≤ n ∧ n ≤ slimZ f ∧ a ≤ 65536 - n ∧ c = 0 ∧ o = 0) ∨ (f = 17 ∧ a = 0 ∧ n = 0 ∧ c = 0 ∧ o = 0) ∨ (f = 43 ∧ 1 ≤ c ∧ c ≤ 3 ∧ 0 ≤ o ∧ o ≤ 255 ∧ a = 0 ∧ n = 0))
theorem srlim_any (f : Int) (w : World) : Calls Try.prog 22 #[.int .i64 f] w fun e w' => e = .returned (.int .i64 (slimZ f)) ∧ w = w' := by
  rcases (show f = 1 ∨ f = 2 ∨ f = 3 ∨ f = 4 ∨ (f ≠ 1 ∧ f ≠ 2 ∧ f ≠ 3 ∧ f ≠ 4) by omega) with rfl | rfl | rfl | rfl | ⟨h1, h2, h3, h4⟩
  case inr.inr.inr.inr =>
    have hz : slimZ f = 0 := by rw [slimZ, if_neg (by omega), if_neg (by omega)]
    rw [hz]
    clear hz
    go_enter Try.func22, Try.ntmps22
    go_wp2
    go_ret
    exact ⟨rfl, rfl⟩
  all_goals
    go_enter Try.func22, Try.ntmps22
    go_wp2
    go_ret
    exact ⟨rfl, rfl⟩
end Go.Proofs.Ytipcnpnfdoainaa

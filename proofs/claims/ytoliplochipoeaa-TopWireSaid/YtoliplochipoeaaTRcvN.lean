/- The receiver: a nil receiver's answers. -/
import Derived.Test.YtoliplochipoeaaTRcv
set_option linter.unusedVariables false
set_option linter.unusedSimpArgs false
namespace Go.Proofs.Ytoliplochipoeaa
open Go.RowKit

def noFrame : Value := .agg #[.slice none 0 0, .int .i64 0, .int .i64 0, .int .i64 0]
theorem deadline_nil (w : World) : Calls Try.prog 76 #[.pointer none] w fun e w' => e = .returned (.tuple #[.int .i64 0, .bool false]) ∧ Below w.heap.size w w' := by
  go_enter Try.func76, Try.ntmps76
  go_wp2
  exact bodyPost_ret (v := .tuple #[.int .i64 0, .bool false]) (by simp [results, Try.results76, go_sem]) rfl ⟨rfl, by first | exact Below.refl _ _ | exact below_drew (Below.refl _ _)⟩
theorem idle_nil (t : Int) (w : World) : Calls Try.prog 64 #[.pointer none, .int .i64 t] w fun e w' => e = .returned (.tuple #[noFrame, .bool false]) ∧ Below w.heap.size w w' := by
  go_enter Try.func64, Try.ntmps64
  go_wp2
  exact bodyPost_ret (v := .tuple #[noFrame, .bool false]) (by simp [results, Try.results64, go_sem, noFrame]) rfl ⟨rfl, by first | exact Below.refl _ _ | exact (Below.refl _ _).alloc (Nat.le_refl _) _⟩
end Go.Proofs.Ytoliplochipoeaa

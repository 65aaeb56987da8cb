/- The receiver: its ten cells, and Deadline. -/
import Derived.Test.YtoliplochipoeaaLib3
import Derived.Test.YtoliplochipoeaaBox
import Derived.Test.YtoliplochipoeaaTTimR
import Derived.Deep.QuietTactic
import Derived.BigQuiet
set_option linter.unusedVariables false
set_option linter.unusedSimpArgs false
namespace Go.Proofs.Ytoliplochipoeaa
open Go.RowKit

/-- char, t15, t35, the frame (bytes, first, last, flags), active, last, idle -/
def rcvCells (ch t15 t35 : Int) (bs : Value) (fi la fl : Int) (ac : Bool) (lt id_ : Int) : Array Value :=
  #[.int .i64 ch, .int .i64 t15, .int .i64 t35, bs, .int .i64 fi, .int .i64 la, .int .i64 fl, .bool ac, .int .i64 lt, .int .i64 id_]
set_option maxHeartbeats 1000000 in
theorem deadline_any (ch t15 t35 : Int) (bs : Value) (fi la fl : Int) (ac : Bool) (lt id_ : Int) (g : Nat) (w : World) (hB : Box w g (rcvCells ch t15 t35 bs fi la fl ac lt id_))
    (h1 : 0 ≤ ch) (h2 : ch ≤ 100000) (h3 : 0 ≤ t35) (h4 : t35 ≤ 100000) (h5 : 0 ≤ lt) (h6 : lt ≤ 1152921504606846976) :
    Calls Try.prog 76 #[.pointer (some ⟨g, 0, none⟩)] w fun e w' => e = .returned (.tuple #[.int .i64 (if ac then lt + t35 + ch else 0), .bool ac]) ∧ Below w.heap.size w w' := by
  obtain ⟨q, z, l⟩ := hB
  have y0 : w.cell? ⟨g, 0, none⟩ = some (.int .i64 ch) := q 0
  have y2 : w.cell? ⟨g, 2, none⟩ = some (.int .i64 t35) := q 2
  have y7 : w.cell? ⟨g, 7, none⟩ = some (.bool ac) := q 7
  have y8 : w.cell? ⟨g, 8, none⟩ = some (.int .i64 lt) := q 8
  have k1 : IntKind.i64.wrap (lt + t35) = lt + t35 := IntWalk.i64_in _ ⟨by omega, by omega⟩
  have k2 : IntKind.i64.wrap (lt + t35 + ch) = lt + t35 + ch := IntWalk.i64_in _ ⟨by omega, by omega⟩
  clear q h1 h2 h3 h4 h5 h6
  cases ac
  · go_enter Try.func76, Try.ntmps76
    go_wp2
    exact bodyPost_ret (v := .tuple #[.int .i64 0, .bool false]) (by simp [results, Try.results76, go_sem]) rfl ⟨rfl, by first | exact Below.refl _ _ | exact below_drew (Below.refl _ _)⟩
  · go_enter Try.func76, Try.ntmps76
    go_wp2_with fail
    go_quiet (fail)
    go_wp2
    exact bodyPost_ret (v := .tuple #[.int .i64 (lt + t35 + ch), .bool true]) (by simp [results, Try.results76, go_sem]) rfl ⟨rfl, by first | exact Below.refl _ _ | exact below_drewN (Below.refl _ _) _ | exact below_drew (Below.refl _ _)⟩
end Go.Proofs.Ytoliplochipoeaa

/- Layer 18: the walk of the law BudgetLog2. -/
import Derived.Test.YtjpljjhnjholdaaBudM
set_option linter.unusedVariables false
set_option linter.unusedSimpArgs false
namespace Go.Proofs.Ytjpljjhnjholdaa
open Go.RowKit

set_option maxRecDepth 100000 in
set_option maxHeartbeats 1000000 in
theorem log2law_in (n : Int) (l : Nat) (w : World) (h1 : ¬ n < 1) (h2 : ¬ 65536 < n) (hl : l ≤ 16) (hz : logZ n = l) (ha : n ≤ (2 ^ l : Nat)) (hb : l ≠ 0 → ((2 ^ (l - 1) : Nat) : Int) < n) :
    Calls Try.prog 4 #[.int .i64 n] w fun e w' => e = .returned (.bool true) ∧ Below w.heap.size w w' := by
  have hc : ∀ w, Calls Try.prog 8 #[.int .i64 n] w fun e w' => e = .returned (.int .i64 l) ∧ w = w' := fun w => hz ▸ log2_any n w
  have HC := Lib.hid hc; clear hc hz
  rcases (show l = 0 ∨ l = 1 ∨ l = 2 ∨ l = 3 ∨ l = 4 ∨ l = 5 ∨ l = 6 ∨ l = 7 ∨ l = 8 ∨ l = 9 ∨ l = 10 ∨ l = 11 ∨ l = 12 ∨ l = 13 ∨ l = 14 ∨ l = 15 ∨ l = 16 by omega) with rfl | rfl | rfl | rfl | rfl | rfl | rfl | rfl | rfl | rfl | rfl | rfl | rfl | rfl | rfl | rfl | rfl
  all_goals
    simp at ha hb
    go_enter Try.func4, Try.ntmps4
    go_wp2_with fail
    refine (HC.out _).mono ?_
    rintro e w' ⟨rfl, rfl⟩
    go_wp2_with fail
    refine (awake_any _).mono ?_
    rintro e w1 ⟨rfl, hb1⟩
    go_wp2
    go_ret
    exact ⟨rfl, hb1⟩

set_option maxRecDepth 100000 in
theorem log2law_any (n : Int) (w : World) :
    Calls Try.prog 4 #[.int .i64 n] w fun e w' => e = .returned (.bool true) ∧ Below w.heap.size w w' := by
  by_cases hin : 1 ≤ n ∧ n ≤ 65536
  · obtain ⟨m, rfl⟩ := Int.eq_ofNat_of_zero_le (show 0 ≤ n by omega)
    obtain ⟨g1, g2⟩ := lg_spec m (by omega) (by omega)
    refine log2law_in m (lg m) w (by omega) (by omega) (lg_le m (by omega) (by omega)) (by rw [logZ, if_pos hin]; rfl) (by omega) ?_
    intro hne
    have h := g2 (lg m - 1)
    have : ¬ m ≤ 2 ^ (lg m - 1) := fun h' => by have := h h'; omega
    omega
  · have hz : logZ n = 0 := by rw [logZ, if_neg hin]
    have hc : ∀ w, Calls Try.prog 8 #[.int .i64 n] w fun e w' => e = .returned (.int .i64 0) ∧ w = w' := fun w => by
      have := log2_any n w
      rw [hz] at this
      exact this
    have HC := Lib.hid hc; clear hc hz
    rcases (show n < 1 ∨ (¬ n < 1 ∧ 65536 < n) by omega) with h | ⟨h0, h⟩
    all_goals
      clear hin
      go_enter Try.func4, Try.ntmps4
      go_wp2_with fail
      refine (HC.out _).mono ?_
      rintro e w' ⟨rfl, rfl⟩
      go_wp2_with fail
      refine (awake_any _).mono ?_
      rintro e w1 ⟨rfl, hb1⟩
      go_wp2
      go_ret
      exact ⟨rfl, hb1⟩

end Go.Proofs.Ytjpljjhnjholdaa

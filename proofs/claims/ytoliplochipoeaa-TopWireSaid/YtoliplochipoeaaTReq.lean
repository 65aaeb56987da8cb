/- Layer 10: contracts of Limit and Valid, the program's and the reference's. -/
import Derived.Test.YtoliplochipoeaaRows
import Derived.Test.YtoliplochipoeaaLib2
set_option linter.unusedVariables false
set_option linter.unusedSimpArgs false
namespace Go.Proofs.Ytoliplochipoeaa
open Go.RowKit

def limZ (f : Int) : Int := if f = 1 ∨ f = 2 then 2000 else if f = 3 ∨ f = 4 then 125 else 0
abbrev qv (f a n c o : Int) : Value := .agg #[.int .i64 f, .int .i64 a, .int .i64 n, .int .i64 c, .int .i64 o]
def vq (f a n c o : Int) : Bool :=
  decide ((1 ≤ f ∧ f ≤ 4 ∧ 0 ≤ a ∧ 1 ≤ n ∧ n ≤ limZ f ∧ a ≤ 65536 - n ∧ c = 0 ∧ o = 0) ∨ (f = 17 ∧ a = 0 ∧ n = 0 ∧ c = 0 ∧ o = 0) ∨ (f = 43 ∧ 1 ≤ c ∧ c ≤ 3 ∧ 0 ≤ o ∧ o ≤ 255 ∧ a = 0 ∧ n = 0))

theorem lim_any (f : Int) (w : World) : Calls Try.prog 38 #[.int .i64 f] w fun e w' => e = .returned (.int .i64 (limZ f)) ∧ w = w' := by
  rcases (show f = 1 ∨ f = 2 ∨ f = 3 ∨ f = 4 ∨ (f ≠ 1 ∧ f ≠ 2 ∧ f ≠ 3 ∧ f ≠ 4) by omega) with rfl | rfl | rfl | rfl | ⟨h1, h2, h3, h4⟩
  case inr.inr.inr.inr =>
    have hz : limZ f = 0 := by rw [limZ, if_neg (by omega), if_neg (by omega)]
    rw [hz]
    clear hz
    go_enter Try.func38, Try.ntmps38
    go_wp2
    go_ret
    exact ⟨rfl, rfl⟩
  all_goals
    go_enter Try.func38, Try.ntmps38
    go_wp2
    go_ret
    exact ⟨rfl, rfl⟩
theorem rlim_any (f : Int) (w : World) : Calls Try.prog 21 #[.int .i64 f] w fun e w' => e = .returned (.int .i64 (limZ f)) ∧ w = w' := by
  rcases (show f = 1 ∨ f = 2 ∨ f = 3 ∨ f = 4 ∨ (f ≠ 1 ∧ f ≠ 2 ∧ f ≠ 3 ∧ f ≠ 4) by omega) with rfl | rfl | rfl | rfl | ⟨h1, h2, h3, h4⟩
  case inr.inr.inr.inr =>
    have hz : limZ f = 0 := by rw [limZ, if_neg (by omega), if_neg (by omega)]
    rw [hz]
    clear hz
    go_enter Try.func21, Try.ntmps21
    go_wp2
    go_ret
    exact ⟨rfl, rfl⟩
  all_goals
    go_enter Try.func21, Try.ntmps21
    go_wp2
    go_ret
    exact ⟨rfl, rfl⟩
def tabB (f : Int) : Bool := decide (1 ≤ f ∧ f ≤ 4)
theorem istab_any (f : Int) (w : World) : Calls Try.prog 37 #[.int .i64 f] w fun e w' => e = .returned (.bool (tabB f)) ∧ w = w' := by
  rcases (show f < 1 ∨ (1 ≤ f ∧ 4 < f) ∨ (1 ≤ f ∧ f ≤ 4) by omega) with h | ⟨h0, h⟩ | ⟨h0, h⟩
  · have hg : decide (1 ≤ f) = false := by simp; omega
    have hz : tabB f = false := by simp [tabB]; omega
    rw [hz]; clear hz
    go_enter Try.func37, Try.ntmps37
    go_wp2
    go_ret
    exact ⟨rfl, rfl⟩
  · have hg : decide (f ≤ 4) = false := by simp; omega
    have hz : tabB f = false := by simp [tabB]; omega
    rw [hz]; clear hz
    go_enter Try.func37, Try.ntmps37
    go_wp2
    go_ret
    exact ⟨rfl, rfl⟩
  · have hz : tabB f = true := by simp [tabB]; omega
    rw [hz]; clear hz
    go_enter Try.func37, Try.ntmps37
    go_wp2
    go_ret
    exact ⟨rfl, rfl⟩
end Go.Proofs.Ytoliplochipoeaa

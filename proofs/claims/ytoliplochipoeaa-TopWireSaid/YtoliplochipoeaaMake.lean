/- Contracts of the statements' helpers: modscanmake.Mod, Bytes. -/
import Derived.Test.YtoliplochipoeaaRows
import Derived.Test.YtoliplochipoeaaLib2
set_option linter.unusedVariables false
set_option linter.unusedSimpArgs false
namespace Go.Proofs.Ytoliplochipoeaa
open Go.RowKit

theorem tmod_lt (x n : Int) (hn : 1 ≤ n) : -n < x.tmod n ∧ x.tmod n < n := by
  have h1 := Int.tmod_lt_of_pos x (by omega : 0 < n)
  have h2 : -n < x.tmod n := by
    have := Int.neg_tmod x n
    have h3 := Int.tmod_lt_of_pos (-x) (by omega : 0 < n)
    omega
  exact ⟨h2, h1⟩
theorem tmod_mod (x n : Int) : (x.tmod n + n) % n = x % n := by
  have e : x.tmod n + n = x + n * (1 - x.tdiv n) := by
    have := Int.mul_tdiv_add_tmod x n
    rw [Int.mul_sub]; omega
  rw [e, Int.add_mul_emod_self_left]

theorem mod_any (x n : Int) (hn : 1 ≤ n) (hn2 : n ≤ 1000000000) (w : World) : Calls Try.prog 6 #[.int .i64 x, .int .i64 n] w fun e w' => e = .returned (.int .i64 (x % n)) ∧ w = w' := by
  have h := tmod_lt x n hn
  have h1 := h.1
  have h2 := h.2
  have hne : (n == 0) = false := by simp; omega
  have hm := tmod_mod x n
  have HM := Lib.hid hm
  clear h hm
  go_enter Try.func6, Try.ntmps6
  go_wp2
  go_ret
  exact ⟨by rw [← HM.out]; rfl, rfl⟩

end Go.Proofs.Ytoliplochipoeaa

/- Layer 18 as layer 25 uses it: Log2, Window (picked by pick.py) -/
import Derived.Test.YtdkkfahnkenplaaRows
import Derived.Test.YtdkkfahnkenplaaBitsShelf
import Derived.Test.YtdkkfahnkenplaaLib2
set_option linter.unusedVariables false
set_option linter.unusedSimpArgs false
namespace Go.Proofs.Ytdkkfahnkenplaa
open Go.RowKit

/-- The least exponent whose power of two is not less than n. -/
def lg (n : Nat) : Nat := Lib.bitLen (n - 1)
theorem aux_spec : ∀ (f x : Nat), x < 2 ^ f → x < 2 ^ Lib.bitLenAux f x ∧ ∀ k, x < 2 ^ k → Lib.bitLenAux f x ≤ k
  | 0, x, h => by
    have : x = 0 := by simpa using h
    subst this
    simp [Lib.bitLenAux]
  | f + 1, x, h => by
    unfold Lib.bitLenAux
    by_cases hx : x = 0
    · subst hx; simp
    · rw [if_neg hx]
      obtain ⟨h1, h2⟩ := aux_spec f (x / 2) (by rw [Nat.pow_succ] at h; omega)
      refine ⟨by rw [Nat.add_comm, Nat.pow_succ]; omega, fun k hk => ?_⟩
      rcases k with _ | k
      · simp at hk; omega
      · have := h2 k (by rw [Nat.pow_succ] at hk; omega)
        omega
theorem lg_spec (n : Nat) (h1 : 1 ≤ n) (h2 : n ≤ 65536) : n ≤ 2 ^ lg n ∧ ∀ k, n ≤ 2 ^ k → lg n ≤ k := by
  have h := aux_spec 64 (n - 1) (by have : 65536 < 2 ^ 64 := by decide
                                    omega)
  refine ⟨by have := h.1; unfold lg Lib.bitLen; omega, fun k hk => h.2 k (by omega)⟩
theorem lg_le (n : Nat) (h1 : 1 ≤ n) (h2 : n ≤ 65536) : lg n ≤ 16 := (lg_spec n h1 h2).2 16 (by omega)
def logZ (n : Int) : Nat := if 1 ≤ n ∧ n ≤ 65536 then lg n.toNat else 0
theorem log2_any (n : Int) (w : World) : Calls Try.prog 35 #[.int .i64 n] w fun e w' => e = .returned (.int .i64 (logZ n)) ∧ w = w' := by
  rcases (show n < 1 ∨ 65536 < n ∨ (1 ≤ n ∧ n ≤ 65536) by omega) with h | h | ⟨h1, h2⟩
  · have hz : logZ n = 0 := by rw [logZ, if_neg (by omega)]
    have HZ := Lib.hid hz; clear hz
    go_enter Try.func35, Try.ntmps35
    go_wp2
    go_ret
    exact ⟨by rw [HZ.out]; rfl, rfl⟩
  · have hz : logZ n = 0 := by rw [logZ, if_neg (by omega)]
    have HZ := Lib.hid hz; clear hz
    go_enter Try.func35, Try.ntmps35
    go_wp2
    go_ret
    exact ⟨by rw [HZ.out]; rfl, rfl⟩
  · have hz : logZ n = Lib.bitLen (n.toNat - 1) := by
      rw [logZ, if_pos ⟨h1, h2⟩, lg]
    have HZ := Lib.hid hz; clear hz
    have hm : 0 ≤ n - 1 := by omega
    go_enter Try.func35, Try.ntmps35
    go_wp2_with fail
    refine (Go.Proofs.Try.bits_Len _ _ (by omega) (by omega)).mono ?_
    rintro e w' ⟨rfl, rfl⟩
    go_wp2
    go_ret
    exact ⟨by rw [HZ.out]; rfl, rfl⟩
theorem logZ_le (n : Int) : logZ n ≤ 16 := by
  unfold logZ; split
  · rename_i h; exact lg_le _ (by omega) (by omega)
  · omega
theorem log2_eq (n z : Int) (h : (logZ n : Int) = z) (w : World) : Calls Try.prog 35 #[.int .i64 n] w fun e w' => e = .returned (.int .i64 z) ∧ w = w' := h ▸ log2_any n w
def winZ (n : Int) : Int := if 1 ≤ n ∧ n ≤ 512 then n * (3 + logZ n) else 0
theorem win_any (n : Int) (w : World) : Calls Try.prog 24 #[.int .i64 n] w fun e w' => e = .returned (.int .i64 (winZ n)) ∧ w = w' := by
  rcases (show n < 1 ∨ 512 < n ∨ (1 ≤ n ∧ n ≤ 512) by omega) with h | h | ⟨h1, h2⟩
  · have hz : winZ n = 0 := by rw [winZ, if_neg (by omega)]
    have HZ := Lib.hid hz; clear hz
    go_enter Try.func24, Try.ntmps24
    go_wp2
    go_ret
    exact ⟨by rw [HZ.out]; rfl, rfl⟩
  · have hz : winZ n = 0 := by rw [winZ, if_neg (by omega)]
    have HZ := Lib.hid hz; clear hz
    go_enter Try.func24, Try.ntmps24
    go_wp2
    go_ret
    exact ⟨by rw [HZ.out]; rfl, rfl⟩
  · have hz : winZ n = n * (3 + logZ n) := by rw [winZ, if_pos ⟨h1, h2⟩]
    have hle := logZ_le n
    have hL := fun w => log2_any n w
    obtain ⟨l, hl⟩ : ∃ l, logZ n = l := ⟨_, rfl⟩
    rw [hl] at hz hle hL
    clear hl
    have HZ := Lib.hid hz; have HL := Lib.hid hL; clear hz hL
    have hm1 : 0 ≤ n * (3 + (l : Int)) := Int.mul_nonneg (by omega) (by omega)
    have hm2 : n * (3 + (l : Int)) ≤ 512 * 19 := Int.mul_le_mul h2 (by omega) (by omega) (by omega)
    go_enter Try.func24, Try.ntmps24
    go_wp2_with fail
    refine (HL.out _).mono ?_
    rintro e w' ⟨rfl, rfl⟩
    go_wp2
    go_ret
    exact ⟨by rw [HZ.out]; rfl, rfl⟩
end Go.Proofs.Ytdkkfahnkenplaa

/- Layer 18: contracts of Search, Window and Mapped, the program's and the reference's. -/
import Derived.Test.YtjpljjhnjholdaaBits
set_option linter.unusedVariables false
set_option linter.unusedSimpArgs false
namespace Go.Proofs.Ytjpljjhnjholdaa
open Go.RowKit

theorem logZ_le (n : Int) : logZ n ≤ 16 := by
  unfold logZ; split
  · rename_i h; exact lg_le _ (by omega) (by omega)
  · omega
def limZ (t : Int) : Int := if t = 1 ∨ t = 2 then 2000 else if t = 3 ∨ t = 4 then 125 else 0
def schZ (t : Int) : Int := if t = 1 ∨ t = 2 then 12 else if t = 3 ∨ t = 4 then 8 else 0
def winZ (n : Int) : Int := if 1 ≤ n ∧ n ≤ 512 then n * (3 + logZ n) else 0
def inZ (x : Int) : Prop := 0 ≤ x ∧ x ≤ 65536
def mapZ (a b c d : Int) : Int := if (0 ≤ a ∧ a ≤ 65536) ∧ (0 ≤ b ∧ b ≤ 65536) ∧ (0 ≤ c ∧ c ≤ 65536) ∧ (1 ≤ d ∧ d ≤ 65536) then a + 2 * (b / d) + c * (2 + logZ d) else 0

theorem lim_any (t : Int) (w : World) : Calls Try.prog 24 #[.int .i64 t] w fun e w' => e = .returned (.int .i64 (limZ t)) ∧ w = w' := by
  go_enter Try.func24, Try.ntmps24
  go_wp2
  all_goals (go_ret; refine ⟨?_, rfl⟩; simp_all [limZ])
theorem sch_any (t : Int) (w : World) : Calls Try.prog 10 #[.int .i64 t] w fun e w' => e = .returned (.int .i64 (schZ t)) ∧ w = w' := by
  go_enter Try.func10, Try.ntmps10
  go_wp2
  all_goals (go_ret; refine ⟨?_, rfl⟩; simp_all [schZ])
theorem rlog2_eq (n z : Int) (h : (logZ n : Int) = z) (w : World) : Calls Try.prog 9 #[.int .i64 n] w fun e w' => e = .returned (.int .i64 z) ∧ w = w' := h ▸ rlog2_any n w
theorem log2_eq (n z : Int) (h : (logZ n : Int) = z) (w : World) : Calls Try.prog 8 #[.int .i64 n] w fun e w' => e = .returned (.int .i64 z) ∧ w = w' := h ▸ log2_any n w
theorem lim_eq (n z : Int) (h : limZ n = z) (w : World) : Calls Try.prog 24 #[.int .i64 n] w fun e w' => e = .returned (.int .i64 z) ∧ w = w' := h ▸ lim_any n w
theorem rsch_any (t : Int) (w : World) : Calls Try.prog 11 #[.int .i64 t] w fun e w' => e = .returned (.int .i64 (schZ t)) ∧ w = w' := by
  rcases (show t < 1 ∨ 4 < t ∨ t = 1 ∨ t = 2 ∨ t = 3 ∨ t = 4 by omega) with h | h | h | h | h | h
  · have hz : schZ t = 0 := by unfold schZ; rw [if_neg (by omega), if_neg (by omega)]
    have HZ := Lib.hid hz; clear hz
    go_enter Try.func11, Try.ntmps11
    go_wp2
    go_ret
    exact ⟨by rw [HZ.out]; rfl, rfl⟩
  · have hz : schZ t = 0 := by unfold schZ; rw [if_neg (by omega), if_neg (by omega)]
    have HZ := Lib.hid hz; clear hz
    go_enter Try.func11, Try.ntmps11
    go_wp2
    go_ret
    exact ⟨by rw [HZ.out]; rfl, rfl⟩
  · subst h
    go_enter Try.func11, Try.ntmps11
    go_wp2_with fail
    refine (lim_eq 1 2000 (by decide) _).mono ?_
    rintro e w' ⟨rfl, rfl⟩
    go_wp2_with fail
    refine (rlog2_eq 2000 11 (by decide +kernel) _).mono ?_
    rintro e w' ⟨rfl, rfl⟩
    go_wp2
    go_ret
    exact ⟨rfl, rfl⟩
  · subst h
    go_enter Try.func11, Try.ntmps11
    go_wp2_with fail
    refine (lim_eq 2 2000 (by decide) _).mono ?_
    rintro e w' ⟨rfl, rfl⟩
    go_wp2_with fail
    refine (rlog2_eq 2000 11 (by decide +kernel) _).mono ?_
    rintro e w' ⟨rfl, rfl⟩
    go_wp2
    go_ret
    exact ⟨rfl, rfl⟩
  · subst h
    go_enter Try.func11, Try.ntmps11
    go_wp2_with fail
    refine (lim_eq 3 125 (by decide) _).mono ?_
    rintro e w' ⟨rfl, rfl⟩
    go_wp2_with fail
    refine (rlog2_eq 125 7 (by decide +kernel) _).mono ?_
    rintro e w' ⟨rfl, rfl⟩
    go_wp2
    go_ret
    exact ⟨rfl, rfl⟩
  · subst h
    go_enter Try.func11, Try.ntmps11
    go_wp2_with fail
    refine (lim_eq 4 125 (by decide) _).mono ?_
    rintro e w' ⟨rfl, rfl⟩
    go_wp2_with fail
    refine (rlog2_eq 125 7 (by decide +kernel) _).mono ?_
    rintro e w' ⟨rfl, rfl⟩
    go_wp2
    go_ret
    exact ⟨rfl, rfl⟩

theorem win_any (n : Int) (w : World) : Calls Try.prog 12 #[.int .i64 n] w fun e w' => e = .returned (.int .i64 (winZ n)) ∧ w = w' := by
  rcases (show n < 1 ∨ 512 < n ∨ (1 ≤ n ∧ n ≤ 512) by omega) with h | h | ⟨h1, h2⟩
  · have hz : winZ n = 0 := by rw [winZ, if_neg (by omega)]
    have HZ := Lib.hid hz; clear hz
    go_enter Try.func12, Try.ntmps12
    go_wp2
    go_ret
    exact ⟨by rw [HZ.out]; rfl, rfl⟩
  · have hz : winZ n = 0 := by rw [winZ, if_neg (by omega)]
    have HZ := Lib.hid hz; clear hz
    go_enter Try.func12, Try.ntmps12
    go_wp2
    go_ret
    exact ⟨by rw [HZ.out]; rfl, rfl⟩
  · have hz : winZ n = n * (3 + logZ n) := by rw [winZ, if_pos ⟨h1, h2⟩]
    have hle := logZ_le n
    have hL := fun w => log2_any n w
    obtain ⟨l, hl⟩ : ∃ l, logZ n = l := ⟨_, rfl⟩
    rw [hl] at hz hle hL
    clear hl
    have HZ := Lib.hid hz; have HL := Lib.hid hL; clear hz hL
    have hm1 : 0 ≤ n * (3 + (l : Int)) := Int.mul_nonneg (by omega) (by omega)
    have hm2 : n * (3 + (l : Int)) ≤ 512 * 19 := Int.mul_le_mul h2 (by omega) (by omega) (by omega)
    go_enter Try.func12, Try.ntmps12
    go_wp2_with fail
    refine (HL.out _).mono ?_
    rintro e w' ⟨rfl, rfl⟩
    go_wp2
    go_ret
    exact ⟨by rw [HZ.out]; rfl, rfl⟩

theorem rwin_any (n : Int) (w : World) : Calls Try.prog 13 #[.int .i64 n] w fun e w' => e = .returned (.int .i64 (winZ n)) ∧ w = w' := by
  rcases (show n < 1 ∨ 512 < n ∨ (1 ≤ n ∧ n ≤ 512) by omega) with h | h | ⟨h1, h2⟩
  · have hz : winZ n = 0 := by rw [winZ, if_neg (by omega)]
    have HZ := Lib.hid hz; clear hz
    go_enter Try.func13, Try.ntmps13
    go_wp2
    go_ret
    exact ⟨by rw [HZ.out]; rfl, rfl⟩
  · have hz : winZ n = 0 := by rw [winZ, if_neg (by omega)]
    have HZ := Lib.hid hz; clear hz
    go_enter Try.func13, Try.ntmps13
    go_wp2
    go_ret
    exact ⟨by rw [HZ.out]; rfl, rfl⟩
  · have hz : winZ n = n * (3 + logZ n) := by rw [winZ, if_pos ⟨h1, h2⟩]
    have hle := logZ_le n
    have hL := fun w => rlog2_any n w
    obtain ⟨l, hl⟩ : ∃ l, logZ n = l := ⟨_, rfl⟩
    rw [hl] at hz hle hL
    clear hl
    have HZ := Lib.hid hz; have HL := Lib.hid hL; clear hz hL
    have hm1 : 0 ≤ n * (3 + (l : Int)) := Int.mul_nonneg (by omega) (by omega)
    have hm2 : n * (3 + (l : Int)) ≤ 512 * 19 := Int.mul_le_mul h2 (by omega) (by omega) (by omega)
    go_enter Try.func13, Try.ntmps13
    go_wp2_with fail
    refine (HL.out _).mono ?_
    rintro e w' ⟨rfl, rfl⟩
    go_wp2
    go_ret
    exact ⟨by rw [HZ.out]; rfl, rfl⟩

end Go.Proofs.Ytjpljjhnjholdaa

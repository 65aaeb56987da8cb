/- Layer 17: contracts of Units. -/
import Derived.Test.YtjpljjhnjholdaaCfgRB
import Derived.Deep.QuietTactic
import Derived.BigQuiet
set_option linter.unusedVariables false
set_option linter.unusedSimpArgs false
namespace Go.Proofs.Ytjpljjhnjholdaa
open Go.RowKit

theorem check_ok {x : Cf} (h : checkZ x = 0) : 1 ≤ x.fi ∧ x.fi ≤ x.la ∧ x.la ≤ 247 ∧ 1 ≤ x.ss.length ∧ x.ss.length ≤ 6 ∧ 0 ≤ x.re ∧ x.re ≤ 5 ∧ 1 ≤ x.ev ∧ x.ev ≤ 64 ∧ cntsB x = true ∧ fstsB x = true := by
  unfold checkZ wndZ at h
  split at h
  · cases h
  · rename_i h1
    split at h
    · cases h
    · rename_i h2
      split at h
      · cases h
      · rename_i h3
        split at h
        · cases h
        · rename_i h4
          simp only [Bool.not_eq_false] at h1 h2 h3 h4
          simp only [listB, rangeB, inB, Bool.and_eq_true, decide_eq_true_eq, Bool.not_eq_true', decide_eq_false_iff_not] at h1 h2
          refine ⟨?_, ?_, ?_, h1.2.1, h1.2.2, ?_, ?_, ?_, ?_, h3, h4⟩ <;> omega
def unitsZ (x : Cf) : Int := if checkZ x = 0 then x.ss.length * (x.la - x.fi + 1) else 0
theorem units_bd (x : Cf) : 0 ≤ unitsZ x ∧ unitsZ x ≤ 1482 := by
  unfold unitsZ
  split
  · rename_i h
    obtain ⟨h1, h2, h3, h4, h5, _⟩ := check_ok h
    have e1 : (0 : Int) ≤ x.ss.length * (x.la - x.fi + 1) := Int.mul_nonneg (by omega) (by omega)
    have e2 : (x.ss.length : Int) * (x.la - x.fi + 1) ≤ 6 * 247 := Int.mul_le_mul (by omega) (by omega) (by omega) (by omega)
    omega
  · omega

set_option maxHeartbeats 1000000 in
theorem units_any (x : Cf) (A : Option Addr) (n c B : Nat) (z : Int) (w : World) (hr : Rd w B 2 A n (stCells x.ss)) (hl : x.ss.length = n) (hn : n ≤ maxLen) (hz : unitsZ x = z) :
    Calls Try.prog 28 #[cfV A n c x] w fun e w' => e = .returned (.int .i64 z) ∧ Below w.heap.size w w' := by
  have hr := hr.fits (by decide)
  obtain ⟨k, hk⟩ : ∃ k, checkZ x = k := ⟨_, rfl⟩
  have HC := Lib.hid (fun (W : World) (h : Below w.heap.size w W) => check_any x A n c _ k W (hr.below h (Nat.le_refl _)) hl hn hk)
  have hok := fun h : k = 0 => check_ok (x := x) (by rw [hk, h])
  obtain ⟨ss, fi, la, re, ti, de, w0f, w0c, w1f, w1c, w2f, w2c, w3f, w3c, ev, st⟩ := x
  simp only [unitsZ] at hz hl hok
  rw [hk, hl] at hz
  clear hr hk
  have hbx := (Below.refl w.heap.size w).alloc (Nat.le_refl _) (.cells #[.slice A n c, .int .i64 fi, .int .i64 la, .int .i64 re, .int .i64 ti, .int .i64 de, .int .i64 w0f, .int .i64 w0c, .int .i64 w1f, .int .i64 w1c, .int .i64 w2f, .int .i64 w2c, .int .i64 w3f, .int .i64 w3c, .int .i64 ev, .int .i64 st] 33)
  by_cases h0 : k = 0
  · obtain ⟨h1, h2, h3, h4, h5, _⟩ := hok h0
    rw [if_pos h0] at hz
    subst h0
    have HZ := Lib.hid hz
    have e1 : (0 : Int) ≤ n * (la - fi + 1) := Int.mul_nonneg (by omega) (by omega)
    have e2 : (n : Int) * (la - fi + 1) ≤ 6 * 247 := Int.mul_le_mul (by omega) (by omega) (by omega) (by omega)
    clear hz hok hl
    go_enter Try.func28, Try.ntmps28
    go_wp2_with fail
    refine (HC.out _ hbx).mono ?_
    rintro e w1 ⟨rfl, hb1⟩
    obtain ⟨q1, z1, l1⟩ := Box.new hb1
    go_wp2
    go_ret
    exact ⟨by rw [← HZ.out]; rfl, hbx.trans (hb1.mono hbx.size)⟩
  · rw [if_neg h0] at hz
    subst hz
    have hd : (k != 0) = true := by simpa using h0
    go_enter Try.func28, Try.ntmps28
    go_wp2_with fail
    refine (HC.out _ hbx).mono ?_
    rintro e w1 ⟨rfl, hb1⟩
    go_wp2
    go_ret
    exact ⟨rfl, hbx.trans (hb1.mono hbx.size)⟩

set_option maxHeartbeats 1000000 in
theorem runits_any (x : Cf) (A : Option Addr) (n c B : Nat) (z : Int) (w : World) (hr : Rd w B 2 A n (stCells x.ss)) (hl : x.ss.length = n) (hn : n ≤ maxLen) (hz : unitsZ x = z) :
    Calls Try.prog 30 #[cfV A n c x] w fun e w' => e = .returned (.int .i64 z) ∧ Below w.heap.size w w' := by
  have hr := hr.fits (by decide)
  obtain ⟨k, hk⟩ : ∃ k, checkZ x = k := ⟨_, rfl⟩
  have HC := Lib.hid (fun (W : World) (h : Below w.heap.size w W) => rcheck_any x A n c _ k W (hr.below h (Nat.le_refl _)) hl hn hk)
  have hok := fun h : k = 0 => check_ok (x := x) (by rw [hk, h])
  obtain ⟨ss, fi, la, re, ti, de, w0f, w0c, w1f, w1c, w2f, w2c, w3f, w3c, ev, st⟩ := x
  simp only [unitsZ] at hz hl hok
  rw [hk, hl] at hz
  clear hr hk
  have hbx := (Below.refl w.heap.size w).alloc (Nat.le_refl _) (.cells #[.slice A n c, .int .i64 fi, .int .i64 la, .int .i64 re, .int .i64 ti, .int .i64 de, .int .i64 w0f, .int .i64 w0c, .int .i64 w1f, .int .i64 w1c, .int .i64 w2f, .int .i64 w2c, .int .i64 w3f, .int .i64 w3c, .int .i64 ev, .int .i64 st] 33)
  by_cases h0 : k = 0
  · obtain ⟨h1, h2, h3, h4, h5, _⟩ := hok h0
    rw [if_pos h0] at hz
    subst h0
    have HZ := Lib.hid hz
    have e1 : (0 : Int) ≤ n * (la - fi + 1) := Int.mul_nonneg (by omega) (by omega)
    have e2 : (n : Int) * (la - fi + 1) ≤ 6 * 247 := Int.mul_le_mul (by omega) (by omega) (by omega) (by omega)
    clear hz hok hl
    go_enter Try.func30, Try.ntmps30
    go_wp2_with fail
    refine (HC.out _ hbx).mono ?_
    rintro e w1 ⟨rfl, hb1⟩
    obtain ⟨q1, z1, l1⟩ := Box.new hb1
    go_wp2
    go_ret
    exact ⟨by rw [← HZ.out]; rfl, hbx.trans (hb1.mono hbx.size)⟩
  · rw [if_neg h0] at hz
    subst hz
    have hd : (k != 0) = true := by simpa using h0
    go_enter Try.func30, Try.ntmps30
    go_wp2_with fail
    refine (HC.out _ hbx).mono ?_
    rintro e w1 ⟨rfl, hb1⟩
    go_wp2
    go_ret
    exact ⟨rfl, hbx.trans (hb1.mono hbx.size)⟩

end Go.Proofs.Ytjpljjhnjholdaa

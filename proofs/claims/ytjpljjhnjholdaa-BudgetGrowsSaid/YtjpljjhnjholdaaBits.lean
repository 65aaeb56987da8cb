/- The two Log2 of layer 18. -/
import Derived.Test.YtjpljjhnjholdaaRows
import Derived.Test.YtjpljjhnjholdaaLib2
import Derived.Test.YtjpljjhnjholdaaBitsShelf
set_option linter.unusedVariables false
set_option linter.unusedSimpArgs false
namespace Go.Proofs.Ytjpljjhnjholdaa
open Go.RowKit

/-- The least exponent whose power of two is not less than n. -/
def lg (n : Nat) : Nat := Lib.bitLen (n - 1)
theorem aux_spec : ∀ (f x : Nat), x < 2 ^ f → x < 2 ^ Lib.bitLenAux f x ∧ ∀ k, x < 2 ^ k → Lib.bitLenAux f x ≤ k
  | 0, x, h => by
    have : x = 0 := by simpa using h
    subst this
    simp [Lib.bitLenAux]
  | f + 1, x, h => by
    unfold Lib.bitLenAux
    by_cases hx : x = 0
    · subst hx; simp
    · rw [if_neg hx]
      obtain ⟨h1, h2⟩ := aux_spec f (x / 2) (by rw [Nat.pow_succ] at h; omega)
      refine ⟨by rw [Nat.add_comm, Nat.pow_succ]; omega, fun k hk => ?_⟩
      rcases k with _ | k
      · simp at hk; omega
      · have := h2 k (by rw [Nat.pow_succ] at hk; omega)
        omega
theorem lg_spec (n : Nat) (h1 : 1 ≤ n) (h2 : n ≤ 65536) : n ≤ 2 ^ lg n ∧ ∀ k, n ≤ 2 ^ k → lg n ≤ k := by
  have h := aux_spec 64 (n - 1) (by have : 65536 < 2 ^ 64 := by decide
                                    omega)
  refine ⟨by have := h.1; unfold lg Lib.bitLen; omega, fun k hk => h.2 k (by omega)⟩
theorem lg_le (n : Nat) (h1 : 1 ≤ n) (h2 : n ≤ 65536) : lg n ≤ 16 := (lg_spec n h1 h2).2 16 (by omega)

def logZ (n : Int) : Nat := if 1 ≤ n ∧ n ≤ 65536 then lg n.toNat else 0
theorem log2_any (n : Int) (w : World) : Calls Try.prog 8 #[.int .i64 n] w fun e w' => e = .returned (.int .i64 (logZ n)) ∧ w = w' := by
  rcases (show n < 1 ∨ 65536 < n ∨ (1 ≤ n ∧ n ≤ 65536) by omega) with h | h | ⟨h1, h2⟩
  · have hz : logZ n = 0 := by rw [logZ, if_neg (by omega)]
    have HZ := Lib.hid hz; clear hz
    go_enter Try.func8, Try.ntmps8
    go_wp2
    go_ret
    exact ⟨by rw [HZ.out]; rfl, rfl⟩
  · have hz : logZ n = 0 := by rw [logZ, if_neg (by omega)]
    have HZ := Lib.hid hz; clear hz
    go_enter Try.func8, Try.ntmps8
    go_wp2
    go_ret
    exact ⟨by rw [HZ.out]; rfl, rfl⟩
  · have hz : logZ n = Lib.bitLen (n.toNat - 1) := by
      rw [logZ, if_pos ⟨h1, h2⟩, lg]
    have HZ := Lib.hid hz; clear hz
    have hm : 0 ≤ n - 1 := by omega
    go_enter Try.func8, Try.ntmps8
    go_wp2_with fail
    refine (Go.Proofs.Try.bits_Len _ _ (by omega) (by omega)).mono ?_
    rintro e w' ⟨rfl, rfl⟩
    go_wp2
    go_ret
    exact ⟨by rw [HZ.out]; rfl, rfl⟩

theorem rlog2_any (n : Int) (w : World) : Calls Try.prog 9 #[.int .i64 n] w fun e w' => e = .returned (.int .i64 (logZ n)) ∧ w = w' := by
  rcases (show n ≤ 1 ∨ 65536 < n ∨ (1 < n ∧ n ≤ 65536) by omega) with h | h | ⟨h1, h2⟩
  · have hz : logZ n = 0 := by
      unfold logZ
      split
      · rename_i h'; obtain rfl : n = 1 := by omega
        decide
      · rfl
    have HZ := Lib.hid hz; clear hz
    have hlt : ¬ 1 < n := by omega
    go_enter Try.func9, Try.ntmps9
    go_wp2
    refine wp_loop_rounds 1 ?_
    rw [rounds_succ]
    go_wp2
    go_ret
    exact ⟨by rw [HZ.out]; rfl, rfl⟩
  · have hz : logZ n = 0 := by rw [logZ, if_neg (by omega)]
    have HZ := Lib.hid hz; clear hz
    have hlt : 1 < n := by omega
    have hbig : decide (n ≤ 65536) = false := by simp; omega
    go_enter Try.func9, Try.ntmps9
    go_wp2
    refine wp_loop_rounds 1 ?_
    rw [rounds_succ]
    go_wp2
    go_ret
    exact ⟨by rw [HZ.out]; rfl, rfl⟩
  · obtain ⟨m, rfl⟩ := Int.eq_ofNat_of_zero_le (show 0 ≤ n by omega)
    have hz : logZ (m : Int) = lg m := by rw [logZ, if_pos ⟨by omega, by omega⟩]; rfl
    obtain ⟨g1, g2⟩ := lg_spec m (by omega) (by omega)
    have g3 := lg_le m (by omega) (by omega)
    obtain ⟨l, hl⟩ : ∃ l, lg m = l := ⟨_, rfl⟩
    rw [hl] at g1 g2 g3 hz
    clear hl
    have HZ := Lib.hid hz; have G2 := Lib.hid g2; have G1 := Lib.hid g1
    clear hz g2 g1
    go_enter Try.func9, Try.ntmps9
    go_wp2
    go_loop [3, 4] (fun k x => ∃ (j z : Nat), j ≤ l ∧ k = .int .i64 j ∧ x = .int .i64 z ∧ z = 2 ^ j ∧ z ≤ 65536) (fun k _ => l - (intOf k).toNat)
    case atStart => exact ⟨0, 1, by omega, rfl, rfl, rfl, by omega⟩
    case round =>
      obtain ⟨j, z, hj, rfl, rfl, hzp, hzb⟩ := hrel
      by_cases hlt : z < m
      · have hjl : j < l := by
          rcases Nat.lt_or_ge j l with h | h
          · exact h
          · have := Nat.pow_le_pow_right (show 1 ≤ 2 by decide) h
            have := G1.out
            omega
        have HZP := Lib.hid hzp; clear hzp
        have hlt' : (z : Int) < (m : Int) := by omega
        have h2' : (m : Int) ≤ 65536 := by omega
        go_wp2
        refine ⟨⟨j + 1, z * 2, by omega, by go_num, by go_num, by rw [HZP.out, Nat.pow_succ], ?_⟩, by simp [intOf]; omega⟩
        rw [HZP.out, ← Nat.pow_succ]
        have : 2 ^ (j + 1) ≤ 2 ^ 16 := Nat.pow_le_pow_right (by decide) (by omega)
        omega
      · have hjl : j = l := by
          have := G2.out j (by omega)
          omega
        have HZ2 := HZ.out
        rw [← hjl] at HZ2
        have HZ3 := Lib.hid HZ2
        clear HZ2 hzp hjl
        go_wp2
        go_ret
        exact ⟨by rw [HZ3.out]; rfl, rfl⟩

end Go.Proofs.Ytjpljjhnjholdaa

/- Layer 10: Make makes a valid request. -/
import Derived.Test.YtoliplochipoeaaTReqA
import Derived.Test.YtoliplochipoeaaMake
set_option linter.unusedVariables false
set_option linter.unusedSimpArgs false
namespace Go.Proofs.Ytoliplochipoeaa
open Go.RowKit

set_option maxRecDepth 100000 in
set_option maxHeartbeats 1000000 in
theorem make_any (k a b : Int) (w : World) : Calls Try.prog 7 #[.int .i64 k, .int .i64 a, .int .i64 b] w fun e w' => ∃ f x n c o, e = .returned (qv f x n c o) ∧ vq f x n c o = true ∧ Below w.heap.size w w' := by
  obtain ⟨j, hj⟩ : ∃ j, k % 6 = j := ⟨_, rfl⟩
  have hk : ∀ w, Calls Try.prog 6 #[.int .i64 k, .int .i64 6] w fun e w' => e = .returned (.int .i64 j) ∧ w = w' := fun w => hj ▸ mod_any k 6 (by omega) (by omega) w
  have hb : Below w.heap.size w (w.alloc (.cells #[.int .i64 0, .int .i64 0, .int .i64 0, .int .i64 0, .int .i64 0] 29)) := (Below.refl _ _).alloc (Nat.le_refl _) _
  have HK := Lib.hid hk; clear hk
  rcases (show j = 0 ∨ j = 1 ∨ j = 2 ∨ j = 3 ∨ j = 4 ∨ j = 5 by omega) with rfl | rfl | rfl | rfl | rfl | rfl
  case inr.inr.inr.inr.inl =>
    clear hj
    go_enter Try.func7, Try.ntmps7
    go_wp2_with fail
    refine (HK.out _).mono ?_
    rintro e w' ⟨rfl, rfl⟩
    go_wp2
    exact bodyPost_ret (v := qv 17 0 0 0 0) (by simp [results, Try.results7, go_sem]) rfl ⟨_, _, _, _, _, rfl, by decide, (Below.refl _ w).alloc (Nat.le_refl _) _⟩
  case inr.inr.inr.inr.inr =>
    obtain ⟨c, hc⟩ : ∃ c, a % 3 = c := ⟨_, rfl⟩
    obtain ⟨o, ho⟩ : ∃ o, b % 256 = o := ⟨_, rfl⟩
    have hc1 : 0 ≤ c ∧ c < 3 := by omega
    have ho1 : 0 ≤ o ∧ o < 256 := by omega
    obtain ⟨c0, c3⟩ := hc1
    obtain ⟨o0, o3⟩ := ho1
    have hka : ∀ w, Calls Try.prog 6 #[.int .i64 a, .int .i64 3] w fun e w' => e = .returned (.int .i64 c) ∧ w = w' := fun w => hc ▸ mod_any a 3 (by omega) (by omega) w
    have hkb : ∀ w, Calls Try.prog 6 #[.int .i64 b, .int .i64 256] w fun e w' => e = .returned (.int .i64 o) ∧ w = w' := fun w => ho ▸ mod_any b 256 (by omega) (by omega) w
    have HA := Lib.hid hka; have HB := Lib.hid hkb
    clear hj hc ho hka hkb
    go_enter Try.func7, Try.ntmps7
    go_wp2_with fail
    refine (HK.out _).mono ?_
    rintro e w' ⟨rfl, rfl⟩
    go_wp2_with fail
    refine (HA.out _).mono ?_
    rintro e w' ⟨rfl, rfl⟩
    go_wp2_with fail
    refine (HB.out _).mono ?_
    rintro e w' ⟨rfl, rfl⟩
    go_wp2
    exact bodyPost_ret (v := qv 43 0 0 (1 + c) o) (by simp [results, Try.results7, go_sem]) rfl ⟨_, _, _, _, _, rfl, by simp [vq]; omega, (Below.refl _ w).alloc (Nat.le_refl _) _⟩
  all_goals
    obtain ⟨L, hL⟩ : ∃ L, L = limZ (1 + k % 6) := ⟨_, rfl⟩
    rw [hj] at hL
    have hL' : L = 2000 ∨ L = 125 := by first | (left; exact hL) | (right; exact hL)
    have hlim : ∀ w, Calls Try.prog 21 #[.int .i64 _] w fun e w' => e = .returned (.int .i64 L) ∧ w = w' := fun w => hL ▸ rlim_any _ w
    obtain ⟨m, hm⟩ : ∃ m, b % L = m := ⟨_, rfl⟩
    have hm1 : 0 ≤ m ∧ m < L := by
      have := Int.emod_nonneg b (show L ≠ 0 by omega)
      have := Int.emod_lt_of_pos b (show 0 < L by omega)
      omega
    obtain ⟨m0, m1⟩ := hm1
    obtain ⟨x, hx⟩ : ∃ x, a % (65536 - (1 + m) + 1) = x := ⟨_, rfl⟩
    have hx1 : 0 ≤ x ∧ x < 65536 - (1 + m) + 1 := by
      have := Int.emod_nonneg a (show 65536 - (1 + m) + 1 ≠ 0 by omega)
      have := Int.emod_lt_of_pos a (show 0 < 65536 - (1 + m) + 1 by omega)
      omega
    obtain ⟨x0, x1⟩ := hx1
    have hkb : ∀ w, Calls Try.prog 6 #[.int .i64 b, .int .i64 L] w fun e w' => e = .returned (.int .i64 m) ∧ w = w' := fun w => hm ▸ mod_any b L (by omega) (by omega) w
    have hka : ∀ w, Calls Try.prog 6 #[.int .i64 a, .int .i64 (65536 - (1 + m) + 1)] w fun e w' => e = .returned (.int .i64 x) ∧ w = w' := fun w => hx ▸ mod_any a _ (by omega) (by omega) w
    have HLL := Lib.hid hL
    have HA := Lib.hid hka; have HB := Lib.hid hkb; have HL := Lib.hid hlim
    have hL2 : L ≤ 2000 := by omega
    clear hj hm hx hka hkb hlim hL hL'
    go_enter Try.func7, Try.ntmps7
    go_wp2_with fail
    refine (HK.out _).mono ?_
    rintro e w' ⟨rfl, rfl⟩
    go_wp2_with fail
    refine (HL.out _).mono ?_
    rintro e w' ⟨rfl, rfl⟩
    go_wp2_with fail
    refine (HB.out _).mono ?_
    rintro e w' ⟨rfl, rfl⟩
    go_wp2_with fail
    refine (HA.out _).mono ?_
    rintro e w' ⟨rfl, rfl⟩
    go_wp2
    first
      | exact bodyPost_ret (v := qv 1 x (1 + m) 0 0) (by simp [results, Try.results7, go_sem]) rfl ⟨_, _, _, _, _, rfl, by have := HLL.out; simp at this; simp [vq, ← this]; omega, (Below.refl _ w).alloc (Nat.le_refl _) _⟩
      | exact bodyPost_ret (v := qv 2 x (1 + m) 0 0) (by simp [results, Try.results7, go_sem]) rfl ⟨_, _, _, _, _, rfl, by have := HLL.out; simp at this; simp [vq, ← this]; omega, (Below.refl _ w).alloc (Nat.le_refl _) _⟩
      | exact bodyPost_ret (v := qv 3 x (1 + m) 0 0) (by simp [results, Try.results7, go_sem]) rfl ⟨_, _, _, _, _, rfl, by have := HLL.out; simp at this; simp [vq, ← this]; omega, (Below.refl _ w).alloc (Nat.le_refl _) _⟩
      | exact bodyPost_ret (v := qv 4 x (1 + m) 0 0) (by simp [results, Try.results7, go_sem]) rfl ⟨_, _, _, _, _, rfl, by have := HLL.out; simp at this; simp [vq, ← this]; omega, (Below.refl _ w).alloc (Nat.le_refl _) _⟩
end Go.Proofs.Ytoliplochipoeaa

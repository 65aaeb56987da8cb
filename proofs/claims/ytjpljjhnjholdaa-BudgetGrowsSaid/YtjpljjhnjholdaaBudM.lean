/- Layer 18: contracts of Mapped, the program's and the reference's; the example; the laws BudgetNumbers and BudgetLog2. -/
import Derived.Test.YtjpljjhnjholdaaBud
set_option linter.unusedVariables false
set_option linter.unusedSimpArgs false
namespace Go.Proofs.Ytjpljjhnjholdaa
open Go.RowKit

/-- The four arguments. -/
def arg4 (a b c d : Int) (k : Nat) : Int := if k = 0 then a else if k = 1 then b else if k = 2 then c else d

theorem bd_mul (c : Int) (l : Nat) (h1 : 0 ≤ c) (h2 : c ≤ 65536) (hl : l ≤ 16) : 0 ≤ c * (2 + (l : Int)) ∧ c * (2 + (l : Int)) ≤ 65536 * 18 :=
  ⟨Int.mul_nonneg h1 (by omega), Int.mul_le_mul h2 (by omega) (by omega) (by omega)⟩
theorem bd_div (b d : Int) (h1 : 0 ≤ b) (h2 : b ≤ 65536) (hd : 1 ≤ d) : 0 ≤ b / d ∧ b / d ≤ 65536 :=
  ⟨Int.ediv_nonneg h1 (by omega), Int.le_trans (Int.ediv_le_self _ h1) h2⟩

set_option maxHeartbeats 1000000 in
theorem map_any (a b c d : Int) (w : World) : Calls Try.prog 14 #[.int .i64 a, .int .i64 b, .int .i64 c, .int .i64 d] w fun e w' => e = .returned (.int .i64 (mapZ a b c d)) ∧ Below w.heap.size w w' := by
  have hcell : ∀ k, k < 4 → (w.alloc (.cells #[.int .i64 a, .int .i64 b, .int .i64 c, .int .i64 d] 3)).cell? ⟨w.heap.size, k, none⟩ = some (.int .i64 (arg4 a b c d k)) := by
    intro k hk
    rw [cell_of_row _ w.heap.size k _ _ (0, 0) (heap_alloc_new w _)]
    rcases (show k = 0 ∨ k = 1 ∨ k = 2 ∨ k = 3 by omega) with rfl | rfl | rfl | rfl <;> rfl
  have HC := Lib.hid hcell; clear hcell
  have hB : Below w.heap.size w (w.alloc (.cells #[.int .i64 a, .int .i64 b, .int .i64 c, .int .i64 d] 3)) := (Below.refl _ _).alloc (Nat.le_refl _) _
  go_enter Try.func14, Try.ntmps14
  go_wp2
  go_loop [17] (fun i => ∃ k : Nat, k ≤ 4 ∧ i = .int .i64 k ∧ ∀ j, j < k → 0 ≤ arg4 a b c d j ∧ arg4 a b c d j ≤ 65536) (fun i => 4 - (intOf i).toNat)
  case atStart => exact ⟨0, by omega, rfl, fun j hj => by omega⟩
  case round =>
    obtain ⟨k, hk, rfl, hall⟩ := hrel
    have HA := Lib.hid hall; clear hall
    by_cases hlt : k < 4
    · have hlt' : (k : Int) < 4 := by omega
      have hc := HC.out k hlt
      obtain ⟨x, hx⟩ : ∃ x, arg4 a b c d k = x := ⟨_, rfl⟩
      rw [hx] at hc
      by_cases hin : 0 ≤ x ∧ x ≤ 65536
      · have hnx : ∀ j, j < k + 1 → 0 ≤ arg4 a b c d j ∧ arg4 a b c d j ≤ 65536 := by
          intro j hj
          rcases (show j < k ∨ j = k by omega) with h | rfl
          · exact HA.out j h
          · rw [hx]; exact hin
        have HN := Lib.hid hnx; clear hnx hx
        obtain ⟨h1, h2⟩ := hin
        have h1' : ¬ x < 0 := by omega
        have h2' : ¬ 65536 < x := by omega
        go_wp2
        exact ⟨⟨k + 1, by omega, by go_num, HN.out⟩, by simp [intOf]; omega⟩
      · have hz : mapZ a b c d = 0 := by
          rw [mapZ, if_neg]
          rintro ⟨p, q, r, s⟩
          apply hin
          rw [← hx]
          rcases (show k = 0 ∨ k = 1 ∨ k = 2 ∨ k = 3 by omega) with rfl | rfl | rfl | rfl <;> simp [arg4] <;> omega
        have HZ := Lib.hid hz; clear hz hx
        rcases (show x < 0 ∨ (¬ x < 0 ∧ 65536 < x) by omega) with h | ⟨h0, h⟩
        all_goals
          clear hin
          go_wp2
          go_ret
          exact ⟨by rw [HZ.out]; rfl, hB⟩
    · obtain rfl : k = 4 := by omega
      obtain ⟨a1, a2⟩ : 0 ≤ a ∧ a ≤ 65536 := HA.out 0 (by omega)
      obtain ⟨b1, b2⟩ : 0 ≤ b ∧ b ≤ 65536 := HA.out 1 (by omega)
      obtain ⟨c1, c2⟩ : 0 ≤ c ∧ c ≤ 65536 := HA.out 2 (by omega)
      obtain ⟨d1, d2⟩ : 0 ≤ d ∧ d ≤ 65536 := HA.out 3 (by omega)
      clear HA
      by_cases hd : 1 ≤ d
      · have hz : mapZ a b c d = a + 2 * (b / d) + c * (2 + logZ d) := by rw [mapZ, if_pos ⟨⟨a1, a2⟩, ⟨b1, b2⟩, ⟨c1, c2⟩, hd, d2⟩]
        have hle := logZ_le d
        have hL := fun w => log2_any d w
        obtain ⟨l, hl⟩ : ∃ l, logZ d = l := ⟨_, rfl⟩
        rw [hl] at hz hle hL
        obtain ⟨m1, m2⟩ := bd_mul c l c1 c2 hle
        obtain ⟨e1, e2⟩ := bd_div b d b1 b2 hd
        have hne : (d == 0) = false := by simp; omega
        have hlt1 : ¬ d < 1 := by omega
        have HZ := Lib.hid hz; have HL := Lib.hid hL; clear hz hL hl
        go_wp2
        go_quiet ((go_at_call 8; exact quiet_left (HL.out _)))
        go_wp2
        go_ret
        exact ⟨by rw [HZ.out]; rfl, below_drewN hB _⟩
      · have hz : mapZ a b c d = 0 := by rw [mapZ, if_neg]; omega
        have HZ := Lib.hid hz; clear hz
        have hlt1 : d < 1 := by omega
        go_wp2
        go_ret
        exact ⟨by rw [HZ.out]; rfl, hB⟩

theorem in_any (x lo hi : Int) (r : Bool) (hr : decide (lo ≤ x ∧ x ≤ hi) = r) (w : World) : Calls Try.prog 25 #[.int .i64 x, .int .i64 lo, .int .i64 hi] w fun e w' => e = .returned (.bool r) ∧ w = w' := by
  cases r
  · rcases (show ¬ lo ≤ x ∨ (lo ≤ x ∧ hi < x) by simp at hr; omega) with h | ⟨h1, h⟩
    · have h' : decide (lo ≤ x) = false := by simpa using h
      clear hr h
      go_enter Try.func25, Try.ntmps25
      go_wp2
      go_ret
      exact ⟨rfl, rfl⟩
    · have h' : decide (x ≤ hi) = false := by simpa using h
      clear hr h
      go_enter Try.func25, Try.ntmps25
      go_wp2
      go_ret
      exact ⟨rfl, rfl⟩
  · obtain ⟨h1, h2⟩ : lo ≤ x ∧ x ≤ hi := by simpa using hr
    clear hr
    go_enter Try.func25, Try.ntmps25
    go_wp2
    go_ret
    exact ⟨rfl, rfl⟩

set_option maxHeartbeats 1000000 in
theorem rmap_any (a b c d : Int) (w : World) : Calls Try.prog 15 #[.int .i64 a, .int .i64 b, .int .i64 c, .int .i64 d] w fun e w' => e = .returned (.int .i64 (mapZ a b c d)) ∧ Below w.heap.size w w' := by
  obtain ⟨ra, hra⟩ : ∃ r, decide (0 ≤ a ∧ a ≤ 65536) = r := ⟨_, rfl⟩
  obtain ⟨rb, hrb⟩ : ∃ r, decide (0 ≤ b ∧ b ≤ 65536) = r := ⟨_, rfl⟩
  obtain ⟨rc, hrc⟩ : ∃ r, decide (0 ≤ c ∧ c ≤ 65536) = r := ⟨_, rfl⟩
  obtain ⟨rd, hrd⟩ : ∃ r, decide (1 ≤ d ∧ d ≤ 65536) = r := ⟨_, rfl⟩
  have HA := Lib.hid (fun w => in_any a 0 65536 ra hra w)
  have HB := Lib.hid (fun w => in_any b 0 65536 rb hrb w)
  have HC := Lib.hid (fun w => in_any c 0 65536 rc hrc w)
  have HD := Lib.hid (fun w => in_any d 1 65536 rd hrd w)
  have hz0 : (ra && rb && rc && rd) = false → mapZ a b c d = 0 := by
    intro h
    rw [mapZ, if_neg]
    rintro ⟨p, q, r, s⟩
    rw [← hra, ← hrb, ← hrc, ← hrd, decide_eq_true p, decide_eq_true q, decide_eq_true r, decide_eq_true s] at h
    cases h
  cases ra
  · have HZ := Lib.hid (hz0 rfl); clear hz0 hra hrb hrc hrd
    go_enter Try.func15, Try.ntmps15
    go_wp2_with fail
    refine (HA.out _).mono ?_
    rintro e w' ⟨rfl, rfl⟩
    go_wp2
    go_ret
    exact ⟨by rw [HZ.out]; rfl, Below.refl _ _⟩
  cases rb
  · have HZ := Lib.hid (hz0 rfl); clear hz0 hra hrb hrc hrd
    go_enter Try.func15, Try.ntmps15
    go_wp2_with fail
    refine (HA.out _).mono ?_
    rintro e w' ⟨rfl, rfl⟩
    go_wp2_with fail
    refine (HB.out _).mono ?_
    rintro e w' ⟨rfl, rfl⟩
    go_wp2
    go_ret
    exact ⟨by rw [HZ.out]; rfl, Below.refl _ _⟩
  cases rc
  · have HZ := Lib.hid (hz0 rfl); clear hz0 hra hrb hrc hrd
    go_enter Try.func15, Try.ntmps15
    go_wp2_with fail
    refine (HA.out _).mono ?_
    rintro e w' ⟨rfl, rfl⟩
    go_wp2_with fail
    refine (HB.out _).mono ?_
    rintro e w' ⟨rfl, rfl⟩
    go_wp2_with fail
    refine (HC.out _).mono ?_
    rintro e w' ⟨rfl, rfl⟩
    go_wp2
    go_ret
    exact ⟨by rw [HZ.out]; rfl, Below.refl _ _⟩
  cases rd
  · have HZ := Lib.hid (hz0 rfl); clear hz0 hra hrb hrc hrd
    go_enter Try.func15, Try.ntmps15
    go_wp2_with fail
    refine (HA.out _).mono ?_
    rintro e w' ⟨rfl, rfl⟩
    go_wp2_with fail
    refine (HB.out _).mono ?_
    rintro e w' ⟨rfl, rfl⟩
    go_wp2_with fail
    refine (HC.out _).mono ?_
    rintro e w' ⟨rfl, rfl⟩
    go_wp2_with fail
    refine (HD.out _).mono ?_
    rintro e w' ⟨rfl, rfl⟩
    go_wp2
    go_ret
    exact ⟨by rw [HZ.out]; rfl, Below.refl _ _⟩
  · obtain ⟨a1, a2⟩ := of_decide_eq_true hra
    obtain ⟨b1, b2⟩ := of_decide_eq_true hrb
    obtain ⟨c1, c2⟩ := of_decide_eq_true hrc
    obtain ⟨d1, d2⟩ := of_decide_eq_true hrd
    clear hz0 hra hrb hrc hrd
    have hz : mapZ a b c d = a + 2 * (b / d) + c * (2 + logZ d) := by rw [mapZ, if_pos ⟨⟨a1, a2⟩, ⟨b1, b2⟩, ⟨c1, c2⟩, d1, d2⟩]
    have hle := logZ_le d
    have hL := fun w => rlog2_any d w
    obtain ⟨l, hl⟩ : ∃ l, logZ d = l := ⟨_, rfl⟩
    rw [hl] at hz hle hL
    obtain ⟨m1, m2⟩ := bd_mul c l c1 c2 hle
    obtain ⟨e1, e2⟩ := bd_div b d b1 b2 d1
    have hne : (d == 0) = false := by simp; omega
    have HZ := Lib.hid hz; have HL := Lib.hid hL; clear hz hL hl
    go_enter Try.func15, Try.ntmps15
    go_wp2_with fail
    refine (HA.out _).mono ?_
    rintro e w' ⟨rfl, rfl⟩
    go_wp2_with fail
    refine (HB.out _).mono ?_
    rintro e w' ⟨rfl, rfl⟩
    go_wp2_with fail
    refine (HC.out _).mono ?_
    rintro e w' ⟨rfl, rfl⟩
    go_wp2_with fail
    refine (HD.out _).mono ?_
    rintro e w' ⟨rfl, rfl⟩
    go_wp2
    go_quiet ((go_at_call 9; exact quiet_left (HL.out _)))
    go_wp2
    go_ret
    exact ⟨by rw [HZ.out]; rfl, below_drewN (Below.refl _ _) _⟩

theorem awake_any (w : World) : Calls Try.prog 7 #[] w fun e w' => e = .returned (.bool true) ∧ Below w.heap.size w w' := by
  have hw : ∀ w, Calls Try.prog 12 #[.int .i64 8] w fun e w' => e = .returned (.int .i64 48) ∧ w = w' := fun w => (show winZ 8 = 48 by decide +kernel) ▸ win_any 8 w
  have h1 : ∀ w, Calls Try.prog 10 #[.int .i64 3] w fun e w' => e = .returned (.int .i64 8) ∧ w = w' := fun w => (show schZ 3 = 8 by decide +kernel) ▸ sch_any 3 w
  have h2 : ∀ w, Calls Try.prog 10 #[.int .i64 1] w fun e w' => e = .returned (.int .i64 12) ∧ w = w' := fun w => (show schZ 1 = 12 by decide +kernel) ▸ sch_any 1 w
  have hm : ∀ w, Calls Try.prog 14 #[.int .i64 3, .int .i64 5, .int .i64 1, .int .i64 4] w fun e w' => e = .returned (.int .i64 9) ∧ Below w.heap.size w w' := fun w => (show mapZ 3 5 1 4 = 9 by decide +kernel) ▸ map_any 3 5 1 4 w
  have HW := Lib.hid hw; have H1 := Lib.hid h1; have H2 := Lib.hid h2; have HM := Lib.hid hm
  clear hw h1 h2 hm
  go_enter Try.func7, Try.ntmps7
  go_wp2_with fail
  refine (HW.out _).mono ?_
  rintro e w' ⟨rfl, rfl⟩
  go_wp2_with fail
  refine (H1.out _).mono ?_
  rintro e w' ⟨rfl, rfl⟩
  go_wp2_with fail
  refine (H2.out _).mono ?_
  rintro e w' ⟨rfl, rfl⟩
  go_wp2_with fail
  refine (HM.out _).mono ?_
  rintro e w1 ⟨rfl, hb1⟩
  go_wp2
  go_ret
  exact ⟨rfl, hb1⟩

set_option maxRecDepth 100000 in
theorem numbers_any (n t a b c d : Int) (w : World) : Calls Try.prog 3 #[.int .i64 n, .int .i64 t, .int .i64 a, .int .i64 b, .int .i64 c, .int .i64 d] w fun e w' => e = .returned (.bool true) ∧ Below w.heap.size w w' := by
  go_enter Try.func3, Try.ntmps3
  go_wp2_with fail
  refine (awake_any _).mono ?_
  rintro e w1 ⟨rfl, hb1⟩
  go_wp2_with fail
  refine (log2_any n _).mono ?_
  rintro e w' ⟨rfl, rfl⟩
  go_wp2_with fail
  refine (rlog2_any n _).mono ?_
  rintro e w' ⟨rfl, rfl⟩
  go_wp2_with fail
  refine (sch_any t _).mono ?_
  rintro e w' ⟨rfl, rfl⟩
  go_wp2_with fail
  refine (rsch_any t _).mono ?_
  rintro e w' ⟨rfl, rfl⟩
  go_wp2_with fail
  refine (win_any n _).mono ?_
  rintro e w' ⟨rfl, rfl⟩
  go_wp2_with fail
  refine (rwin_any n _).mono ?_
  rintro e w' ⟨rfl, rfl⟩
  go_wp2_with fail
  refine (map_any a b c d _).mono ?_
  rintro e w2 ⟨rfl, hb2⟩
  go_wp2_with fail
  refine (rmap_any a b c d _).mono ?_
  rintro e w3 ⟨rfl, hb3⟩
  go_wp2
  go_ret
  exact ⟨rfl, ext_trans (ext_trans hb1 hb2) hb3⟩

end Go.Proofs.Ytjpljjhnjholdaa

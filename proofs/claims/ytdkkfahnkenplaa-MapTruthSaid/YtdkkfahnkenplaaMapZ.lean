/- Layers 10 and 18 as MapTruth uses them: request.Valid, budget.Mapped (picked out of other templates by pick.py) -/
import Derived.Test.YtdkkfahnkenplaaBitsM
import Derived.Test.YtdkkfahnkenplaaLib2
import Derived.BigQuiet
import Derived.Deep.QuietTactic
set_option linter.unusedVariables false
set_option linter.unusedSimpArgs false
namespace Go.Proofs.Ytdkkfahnkenplaa
open Go.RowKit

def limZ (f : Int) : Int := if f = 1 ∨ f = 2 then 2000 else if f = 3 ∨ f = 4 then 125 else 0
abbrev qv (f a n c o : Int) : Value := .agg #[.int .i64 f, .int .i64 a, .int .i64 n, .int .i64 c, .int .i64 o]
def vq (f a n c o : Int) : Bool :=
  decide ((1 ≤ f ∧ f ≤ 4 ∧ 0 ≤ a ∧ 1 ≤ n ∧ n ≤ limZ f ∧ a ≤ 65536 - n ∧ c = 0 ∧ o = 0) ∨ (f = 17 ∧ a = 0 ∧ n = 0 ∧ c = 0 ∧ o = 0) ∨ (f = 43 ∧ 1 ≤ c ∧ c ≤ 3 ∧ 0 ≤ o ∧ o ≤ 255 ∧ a = 0 ∧ n = 0))
theorem lim_any (f : Int) (w : World) : Calls Try.prog 37 #[.int .i64 f] w fun e w' => e = .returned (.int .i64 (limZ f)) ∧ w = w' := by
  rcases (show f = 1 ∨ f = 2 ∨ f = 3 ∨ f = 4 ∨ (f ≠ 1 ∧ f ≠ 2 ∧ f ≠ 3 ∧ f ≠ 4) by omega) with rfl | rfl | rfl | rfl | ⟨h1, h2, h3, h4⟩
  case inr.inr.inr.inr =>
    have hz : limZ f = 0 := by rw [limZ, if_neg (by omega), if_neg (by omega)]
    rw [hz]
    clear hz
    go_enter Try.func37, Try.ntmps37
    go_wp2
    go_ret
    exact ⟨rfl, rfl⟩
  all_goals
    go_enter Try.func37, Try.ntmps37
    go_wp2
    go_ret
    exact ⟨rfl, rfl⟩
def tabB (f : Int) : Bool := decide (1 ≤ f ∧ f ≤ 4)
theorem istab_any (f : Int) (w : World) : Calls Try.prog 36 #[.int .i64 f] w fun e w' => e = .returned (.bool (tabB f)) ∧ w = w' := by
  rcases (show f < 1 ∨ (1 ≤ f ∧ 4 < f) ∨ (1 ≤ f ∧ f ≤ 4) by omega) with h | ⟨h0, h⟩ | ⟨h0, h⟩
  · have hg : decide (1 ≤ f) = false := by simp; omega
    have hz : tabB f = false := by simp [tabB]; omega
    rw [hz]; clear hz
    go_enter Try.func36, Try.ntmps36
    go_wp2
    go_ret
    exact ⟨rfl, rfl⟩
  · have hg : decide (f ≤ 4) = false := by simp; omega
    have hz : tabB f = false := by simp [tabB]; omega
    rw [hz]; clear hz
    go_enter Try.func36, Try.ntmps36
    go_wp2
    go_ret
    exact ⟨rfl, rfl⟩
  · have hz : tabB f = true := by simp [tabB]; omega
    rw [hz]; clear hz
    go_enter Try.func36, Try.ntmps36
    go_wp2
    go_ret
    exact ⟨rfl, rfl⟩
set_option maxRecDepth 100000 in
set_option maxHeartbeats 2000000 in
theorem valid_any (f a n c o : Int) (w : World) : Calls Try.prog 25 #[qv f a n c o] w fun e w' => e = .returned (.bool (vq f a n c o)) ∧ Below w.heap.size w w' := by
  have hB : Below w.heap.size w (w.alloc (.cells #[.int .i64 f, .int .i64 a, .int .i64 n, .int .i64 c, .int .i64 o] 31)) := (Below.refl _ _).alloc (Nat.le_refl _) _
  rcases (show (1 ≤ f ∧ f ≤ 4) ∨ f = 17 ∨ f = 43 ∨ (¬ (1 ≤ f ∧ f ≤ 4) ∧ f ≠ 17 ∧ f ≠ 43) by omega) with ⟨f1, f4⟩ | rfl | rfl | ⟨hf, f17, f43⟩
  · obtain ⟨m, hm⟩ : ∃ m, limZ f = m := ⟨_, rfl⟩
    have hmb : 125 ≤ m ∧ m ≤ 2000 := by rcases (show f = 1 ∨ f = 2 ∨ f = 3 ∨ f = 4 by omega) with rfl | rfl | rfl | rfl <;> subst hm <;> decide
    have hl : ∀ w, Calls Try.prog 37 #[.int .i64 f] w fun e w' => e = .returned (.int .i64 m) ∧ w = w' := fun w => hm ▸ lim_any f w
    have ht : ∀ w, Calls Try.prog 36 #[.int .i64 f] w fun e w' => e = .returned (.bool true) ∧ w = w' := fun w => by
      have := istab_any f w
      rw [show tabB f = true by simp [tabB]; omega] at this
      exact this
    have HT := Lib.hid ht; clear ht
    have HL := Lib.hid hl; clear hl
    have hz : vq f a n c o = decide (0 ≤ a ∧ 1 ≤ n ∧ n ≤ m ∧ a ≤ 65536 - n ∧ c = 0 ∧ o = 0) := by
      simp only [vq, hm]; apply decide_eq_decide.2; omega
    rw [hz]; clear hz hm
    rcases (show ((¬ 0 ≤ a)) ∨ ((0 ≤ a) ∧ (¬ 1 ≤ n)) ∨ ((0 ≤ a) ∧ (1 ≤ n) ∧ (¬ n ≤ m)) ∨ ((0 ≤ a) ∧ (1 ≤ n) ∧ (n ≤ m) ∧ (¬ a ≤ 65536 - n)) ∨ ((0 ≤ a) ∧ (1 ≤ n) ∧ (n ≤ m) ∧ (a ≤ 65536 - n) ∧ (¬ c = 0)) ∨ ((0 ≤ a) ∧ (1 ≤ n) ∧ (n ≤ m) ∧ (a ≤ 65536 - n) ∧ (c = 0) ∧ (¬ o = 0)) ∨ ((0 ≤ a) ∧ (1 ≤ n) ∧ (n ≤ m) ∧ (a ≤ 65536 - n) ∧ (c = 0) ∧ (o = 0)) by omega) with k | ⟨g0, k⟩ | ⟨g0, g1, k⟩ | ⟨g0, g1, g2, k⟩ | ⟨g0, g1, g2, g3, k⟩ | ⟨g0, g1, g2, g3, rfl, k⟩ | ⟨g0, g1, g2, g3, rfl, rfl⟩
    · skip
      rw [show decide (0 ≤ a ∧ 1 ≤ n ∧ n ≤ m ∧ a ≤ 65536 - n ∧ c = 0 ∧ o = 0) = false by simp; omega]
      have hg : decide (0 ≤ a) = false := by simp; omega
      go_enter Try.func25, Try.ntmps25
      go_wp2_with fail
      refine (HT.out _).mono ?_
      rintro e w' ⟨rfl, rfl⟩
      go_wp2
      go_quiet ((go_at_call 37; exact quiet_left (HL.out _)))
      go_wp2
      go_ret
      exact ⟨rfl, below_drewN hB _⟩
    · skip
      rw [show decide (0 ≤ a ∧ 1 ≤ n ∧ n ≤ m ∧ a ≤ 65536 - n ∧ c = 0 ∧ o = 0) = false by simp; omega]
      have hg : decide (1 ≤ n) = false := by simp; omega
      go_enter Try.func25, Try.ntmps25
      go_wp2_with fail
      refine (HT.out _).mono ?_
      rintro e w' ⟨rfl, rfl⟩
      go_wp2
      go_quiet ((go_at_call 37; exact quiet_left (HL.out _)))
      go_wp2
      go_ret
      exact ⟨rfl, below_drewN hB _⟩
    · skip
      rw [show decide (0 ≤ a ∧ 1 ≤ n ∧ n ≤ m ∧ a ≤ 65536 - n ∧ c = 0 ∧ o = 0) = false by simp; omega]
      have hg : decide (n ≤ m) = false := by simp; omega
      go_enter Try.func25, Try.ntmps25
      go_wp2_with fail
      refine (HT.out _).mono ?_
      rintro e w' ⟨rfl, rfl⟩
      go_wp2
      go_quiet ((go_at_call 37; exact quiet_left (HL.out _)))
      go_wp2
      go_ret
      exact ⟨rfl, below_drewN hB _⟩
    · skip
      rw [show decide (0 ≤ a ∧ 1 ≤ n ∧ n ≤ m ∧ a ≤ 65536 - n ∧ c = 0 ∧ o = 0) = false by simp; omega]
      have hg : decide (a ≤ 65536 - n) = false := by simp; omega
      go_enter Try.func25, Try.ntmps25
      go_wp2_with fail
      refine (HT.out _).mono ?_
      rintro e w' ⟨rfl, rfl⟩
      go_wp2
      go_quiet ((go_at_call 37; exact quiet_left (HL.out _)))
      go_wp2
      go_ret
      exact ⟨rfl, below_drewN hB _⟩
    · skip
      rw [show decide (0 ≤ a ∧ 1 ≤ n ∧ n ≤ m ∧ a ≤ 65536 - n ∧ c = 0 ∧ o = 0) = false by simp; omega]
      have hg : (c == 0) = false := by simp; omega
      go_enter Try.func25, Try.ntmps25
      go_wp2_with fail
      refine (HT.out _).mono ?_
      rintro e w' ⟨rfl, rfl⟩
      go_wp2
      go_quiet ((go_at_call 37; exact quiet_left (HL.out _)))
      go_wp2
      go_ret
      exact ⟨rfl, below_drewN hB _⟩
    · skip
      rw [show decide (0 ≤ a ∧ 1 ≤ n ∧ n ≤ m ∧ a ≤ 65536 - n ∧ (0 : Int) = 0 ∧ o = 0) = false by simp; omega]
      have hg : (o == 0) = false := by simp; omega
      go_enter Try.func25, Try.ntmps25
      go_wp2_with fail
      refine (HT.out _).mono ?_
      rintro e w' ⟨rfl, rfl⟩
      go_wp2
      go_quiet ((go_at_call 37; exact quiet_left (HL.out _)))
      go_wp2
      go_ret
      exact ⟨rfl, below_drewN hB _⟩
    · skip
      rw [show decide (0 ≤ a ∧ 1 ≤ n ∧ n ≤ m ∧ a ≤ 65536 - n ∧ (0 : Int) = 0 ∧ (0 : Int) = 0) = true by simp; omega]
      go_enter Try.func25, Try.ntmps25
      go_wp2_with fail
      refine (HT.out _).mono ?_
      rintro e w' ⟨rfl, rfl⟩
      go_wp2
      go_quiet ((go_at_call 37; exact quiet_left (HL.out _)))
      go_wp2
      go_ret
      exact ⟨rfl, below_drewN hB _⟩
  · have ht : ∀ w, Calls Try.prog 36 #[.int .i64 17] w fun e w' => e = .returned (.bool false) ∧ w = w' := fun w => istab_any 17 w
    have HT := Lib.hid ht; clear ht
    rcases (show ¬ a = 0 ∨ (a = 0 ∧ ¬ n = 0) ∨ (a = 0 ∧ n = 0 ∧ ¬ c = 0) ∨ (a = 0 ∧ n = 0 ∧ c = 0 ∧ ¬ o = 0) ∨ (a = 0 ∧ n = 0 ∧ c = 0 ∧ o = 0) by omega) with k | ⟨rfl, k⟩ | ⟨rfl, rfl, k⟩ | ⟨rfl, rfl, rfl, k⟩ | ⟨rfl, rfl, rfl, rfl⟩
    · rw [show vq 17 a n c o = false by simp [vq]; omega]
      go_enter Try.func25, Try.ntmps25
      go_wp2_with fail
      refine (HT.out _).mono ?_
      rintro e w' ⟨rfl, rfl⟩
      go_wp2
      go_ret
      exact ⟨rfl, hB⟩
    · rw [show vq 17 0 n c o = false by simp [vq]; omega]
      go_enter Try.func25, Try.ntmps25
      go_wp2_with fail
      refine (HT.out _).mono ?_
      rintro e w' ⟨rfl, rfl⟩
      go_wp2
      go_ret
      exact ⟨rfl, hB⟩
    · rw [show vq 17 0 0 c o = false by simp [vq]; omega]
      go_enter Try.func25, Try.ntmps25
      go_wp2_with fail
      refine (HT.out _).mono ?_
      rintro e w' ⟨rfl, rfl⟩
      go_wp2
      go_ret
      exact ⟨rfl, hB⟩
    · rw [show vq 17 0 0 0 o = false by simp [vq]; omega]
      go_enter Try.func25, Try.ntmps25
      go_wp2_with fail
      refine (HT.out _).mono ?_
      rintro e w' ⟨rfl, rfl⟩
      go_wp2
      go_ret
      exact ⟨rfl, hB⟩
    · rw [show vq 17 0 0 0 0 = true by decide]
      go_enter Try.func25, Try.ntmps25
      go_wp2_with fail
      refine (HT.out _).mono ?_
      rintro e w' ⟨rfl, rfl⟩
      go_wp2
      go_ret
      exact ⟨rfl, hB⟩
  · have ht : ∀ w, Calls Try.prog 36 #[.int .i64 43] w fun e w' => e = .returned (.bool false) ∧ w = w' := fun w => istab_any 43 w
    have HT := Lib.hid ht; clear ht
    have hz : vq 43 a n c o = decide (1 ≤ c ∧ c ≤ 3 ∧ 0 ≤ o ∧ o ≤ 255 ∧ a = 0 ∧ n = 0) := by
      simp only [vq]; apply decide_eq_decide.2
      constructor
      · rintro (⟨_, h, _⟩ | ⟨h, _⟩ | ⟨_, h1, h2, h3, h4, h5, h6⟩)
        · omega
        · omega
        · exact ⟨by omega, by omega, by omega, by omega, by omega, by omega⟩
      · rintro ⟨h1, h2, h3, h4, h5, h6⟩
        exact .inr (.inr ⟨by trivial, by omega, by omega, by omega, by omega, by omega, by omega⟩)
    rw [hz]; clear hz
    rcases (show ((¬ 1 ≤ c)) ∨ ((1 ≤ c) ∧ (¬ c ≤ 3)) ∨ ((1 ≤ c) ∧ (c ≤ 3) ∧ (¬ 0 ≤ o)) ∨ ((1 ≤ c) ∧ (c ≤ 3) ∧ (0 ≤ o) ∧ (¬ o ≤ 255)) ∨ ((1 ≤ c) ∧ (c ≤ 3) ∧ (0 ≤ o) ∧ (o ≤ 255) ∧ (¬ a = 0)) ∨ ((1 ≤ c) ∧ (c ≤ 3) ∧ (0 ≤ o) ∧ (o ≤ 255) ∧ (a = 0) ∧ (¬ n = 0)) ∨ ((1 ≤ c) ∧ (c ≤ 3) ∧ (0 ≤ o) ∧ (o ≤ 255) ∧ (a = 0) ∧ (n = 0)) by omega) with k | ⟨gc1, k⟩ | ⟨gc1, gc3, k⟩ | ⟨gc1, gc3, go0, k⟩ | ⟨gc1, gc3, go0, go255, k⟩ | ⟨gc1, gc3, go0, go255, rfl, k⟩ | ⟨gc1, gc3, go0, go255, rfl, rfl⟩
    · rw [show decide (1 ≤ c ∧ c ≤ 3 ∧ 0 ≤ o ∧ o ≤ 255 ∧ a = 0 ∧ n = 0) = false by simp; omega]
      have hg : decide (1 ≤ c) = false := by simp; omega
      go_enter Try.func25, Try.ntmps25
      go_wp2_with fail
      refine (HT.out _).mono ?_
      rintro e w' ⟨rfl, rfl⟩
      go_wp2
      go_ret
      exact ⟨rfl, hB⟩
    · rw [show decide (1 ≤ c ∧ c ≤ 3 ∧ 0 ≤ o ∧ o ≤ 255 ∧ a = 0 ∧ n = 0) = false by simp; omega]
      have hg : decide (c ≤ 3) = false := by simp; omega
      go_enter Try.func25, Try.ntmps25
      go_wp2_with fail
      refine (HT.out _).mono ?_
      rintro e w' ⟨rfl, rfl⟩
      go_wp2
      go_ret
      exact ⟨rfl, hB⟩
    · rw [show decide (1 ≤ c ∧ c ≤ 3 ∧ 0 ≤ o ∧ o ≤ 255 ∧ a = 0 ∧ n = 0) = false by simp; omega]
      have hg : decide (0 ≤ o) = false := by simp; omega
      go_enter Try.func25, Try.ntmps25
      go_wp2_with fail
      refine (HT.out _).mono ?_
      rintro e w' ⟨rfl, rfl⟩
      go_wp2
      go_ret
      exact ⟨rfl, hB⟩
    · rw [show decide (1 ≤ c ∧ c ≤ 3 ∧ 0 ≤ o ∧ o ≤ 255 ∧ a = 0 ∧ n = 0) = false by simp; omega]
      have hg : decide (o ≤ 255) = false := by simp; omega
      go_enter Try.func25, Try.ntmps25
      go_wp2_with fail
      refine (HT.out _).mono ?_
      rintro e w' ⟨rfl, rfl⟩
      go_wp2
      go_ret
      exact ⟨rfl, hB⟩
    · rw [show decide (1 ≤ c ∧ c ≤ 3 ∧ 0 ≤ o ∧ o ≤ 255 ∧ a = 0 ∧ n = 0) = false by simp; omega]
      have hg : (a == 0) = false := by simp; omega
      go_enter Try.func25, Try.ntmps25
      go_wp2_with fail
      refine (HT.out _).mono ?_
      rintro e w' ⟨rfl, rfl⟩
      go_wp2
      go_ret
      exact ⟨rfl, hB⟩
    · rw [show decide (1 ≤ c ∧ c ≤ 3 ∧ 0 ≤ o ∧ o ≤ 255 ∧ (0 : Int) = 0 ∧ n = 0) = false by simp; omega]
      have hg : (n == 0) = false := by simp; omega
      go_enter Try.func25, Try.ntmps25
      go_wp2_with fail
      refine (HT.out _).mono ?_
      rintro e w' ⟨rfl, rfl⟩
      go_wp2
      go_ret
      exact ⟨rfl, hB⟩
    · rw [show decide (1 ≤ c ∧ c ≤ 3 ∧ 0 ≤ o ∧ o ≤ 255 ∧ (0 : Int) = 0 ∧ (0 : Int) = 0) = true by simp; omega]
      go_enter Try.func25, Try.ntmps25
      go_wp2_with fail
      refine (HT.out _).mono ?_
      rintro e w' ⟨rfl, rfl⟩
      go_wp2
      go_ret
      exact ⟨rfl, hB⟩
  · rw [show vq f a n c o = false by simp [vq]; omega]
    have ht : ∀ w, Calls Try.prog 36 #[.int .i64 f] w fun e w' => e = .returned (.bool false) ∧ w = w' := fun w => by
      have := istab_any f w
      rw [show tabB f = false by simp [tabB]; omega] at this
      exact this
    have HT := Lib.hid ht; clear ht
    clear hf
    go_enter Try.func25, Try.ntmps25
    go_wp2_with fail
    refine (HT.out _).mono ?_
    rintro e w' ⟨rfl, rfl⟩
    go_wp2
    go_ret
    exact ⟨rfl, hB⟩
def mapZ (a b c d : Int) : Int := if (0 ≤ a ∧ a ≤ 65536) ∧ (0 ≤ b ∧ b ≤ 65536) ∧ (0 ≤ c ∧ c ≤ 65536) ∧ (1 ≤ d ∧ d ≤ 65536) then a + 2 * (b / d) + c * (2 + logZ d) else 0
/-- The four arguments. -/
def arg4 (a b c d : Int) (k : Nat) : Int := if k = 0 then a else if k = 1 then b else if k = 2 then c else d
theorem bd_mul (c : Int) (l : Nat) (h1 : 0 ≤ c) (h2 : c ≤ 65536) (hl : l ≤ 16) : 0 ≤ c * (2 + (l : Int)) ∧ c * (2 + (l : Int)) ≤ 65536 * 18 :=
  ⟨Int.mul_nonneg h1 (by omega), Int.mul_le_mul h2 (by omega) (by omega) (by omega)⟩
theorem bd_div (b d : Int) (h1 : 0 ≤ b) (h2 : b ≤ 65536) (hd : 1 ≤ d) : 0 ≤ b / d ∧ b / d ≤ 65536 :=
  ⟨Int.ediv_nonneg h1 (by omega), Int.le_trans (Int.ediv_le_self _ h1) h2⟩
set_option maxHeartbeats 1000000 in
theorem map_any (a b c d : Int) (w : World) : Calls Try.prog 26 #[.int .i64 a, .int .i64 b, .int .i64 c, .int .i64 d] w fun e w' => e = .returned (.int .i64 (mapZ a b c d)) ∧ Below w.heap.size w w' := by
  have hcell : ∀ k, k < 4 → (w.alloc (.cells #[.int .i64 a, .int .i64 b, .int .i64 c, .int .i64 d] 3)).cell? ⟨w.heap.size, k, none⟩ = some (.int .i64 (arg4 a b c d k)) := by
    intro k hk
    rw [cell_of_row _ w.heap.size k _ _ (0, 0) (heap_alloc_new w _)]
    rcases (show k = 0 ∨ k = 1 ∨ k = 2 ∨ k = 3 by omega) with rfl | rfl | rfl | rfl <;> rfl
  have HC := Lib.hid hcell; clear hcell
  have hB : Below w.heap.size w (w.alloc (.cells #[.int .i64 a, .int .i64 b, .int .i64 c, .int .i64 d] 3)) := (Below.refl _ _).alloc (Nat.le_refl _) _
  go_enter Try.func26, Try.ntmps26
  go_wp2
  go_loop [17] (fun i => ∃ k : Nat, k ≤ 4 ∧ i = .int .i64 k ∧ ∀ j, j < k → 0 ≤ arg4 a b c d j ∧ arg4 a b c d j ≤ 65536) (fun i => 4 - (intOf i).toNat)
  case atStart => exact ⟨0, by omega, rfl, fun j hj => by omega⟩
  case round =>
    obtain ⟨k, hk, rfl, hall⟩ := hrel
    have HA := Lib.hid hall; clear hall
    by_cases hlt : k < 4
    · have hlt' : (k : Int) < 4 := by omega
      have hc := HC.out k hlt
      obtain ⟨x, hx⟩ : ∃ x, arg4 a b c d k = x := ⟨_, rfl⟩
      rw [hx] at hc
      by_cases hin : 0 ≤ x ∧ x ≤ 65536
      · have hnx : ∀ j, j < k + 1 → 0 ≤ arg4 a b c d j ∧ arg4 a b c d j ≤ 65536 := by
          intro j hj
          rcases (show j < k ∨ j = k by omega) with h | rfl
          · exact HA.out j h
          · rw [hx]; exact hin
        have HN := Lib.hid hnx; clear hnx hx
        obtain ⟨h1, h2⟩ := hin
        have h1' : ¬ x < 0 := by omega
        have h2' : ¬ 65536 < x := by omega
        go_wp2
        exact ⟨⟨k + 1, by omega, by go_num, HN.out⟩, by simp [intOf]; omega⟩
      · have hz : mapZ a b c d = 0 := by
          rw [mapZ, if_neg]
          rintro ⟨p, q, r, s⟩
          apply hin
          rw [← hx]
          rcases (show k = 0 ∨ k = 1 ∨ k = 2 ∨ k = 3 by omega) with rfl | rfl | rfl | rfl <;> simp [arg4] <;> omega
        have HZ := Lib.hid hz; clear hz hx
        rcases (show x < 0 ∨ (¬ x < 0 ∧ 65536 < x) by omega) with h | ⟨h0, h⟩
        all_goals
          clear hin
          go_wp2
          go_ret
          exact ⟨by rw [HZ.out]; rfl, hB⟩
    · obtain rfl : k = 4 := by omega
      obtain ⟨a1, a2⟩ : 0 ≤ a ∧ a ≤ 65536 := HA.out 0 (by omega)
      obtain ⟨b1, b2⟩ : 0 ≤ b ∧ b ≤ 65536 := HA.out 1 (by omega)
      obtain ⟨c1, c2⟩ : 0 ≤ c ∧ c ≤ 65536 := HA.out 2 (by omega)
      obtain ⟨d1, d2⟩ : 0 ≤ d ∧ d ≤ 65536 := HA.out 3 (by omega)
      clear HA
      by_cases hd : 1 ≤ d
      · have hz : mapZ a b c d = a + 2 * (b / d) + c * (2 + logZ d) := by rw [mapZ, if_pos ⟨⟨a1, a2⟩, ⟨b1, b2⟩, ⟨c1, c2⟩, hd, d2⟩]
        have hle := logZ_le d
        have hL := fun w => log2_any d w
        obtain ⟨l, hl⟩ : ∃ l, logZ d = l := ⟨_, rfl⟩
        rw [hl] at hz hle hL
        obtain ⟨m1, m2⟩ := bd_mul c l c1 c2 hle
        obtain ⟨e1, e2⟩ := bd_div b d b1 b2 hd
        have hne : (d == 0) = false := by simp; omega
        have hlt1 : ¬ d < 1 := by omega
        have HZ := Lib.hid hz; have HL := Lib.hid hL; clear hz hL hl
        go_wp2
        go_quiet ((go_at_call 35; exact quiet_left (HL.out _)))
        go_wp2
        go_ret
        exact ⟨by rw [HZ.out]; rfl, below_drewN hB _⟩
      · have hz : mapZ a b c d = 0 := by rw [mapZ, if_neg]; omega
        have HZ := Lib.hid hz; clear hz
        have hlt1 : d < 1 := by omega
        go_wp2
        go_ret
        exact ⟨by rw [HZ.out]; rfl, hB⟩
end Go.Proofs.Ytdkkfahnkenplaa

/- Layer 10: contracts of Valid, the program's and the reference's. -/
import Derived.Test.YtoliplochipoeaaTReq
import Derived.BigQuiet
set_option linter.unusedVariables false
set_option linter.unusedSimpArgs false
namespace Go.Proofs.Ytoliplochipoeaa
open Go.RowKit

set_option maxRecDepth 100000 in
set_option maxHeartbeats 2000000 in
theorem qvalid_any (f a n c o : Int) (w : World) : Calls Try.prog 22 #[qv f a n c o] w fun e w' => e = .returned (.bool (vq f a n c o)) ∧ Below w.heap.size w w' := by
  have hB : Below w.heap.size w (w.alloc (.cells #[.int .i64 f, .int .i64 a, .int .i64 n, .int .i64 c, .int .i64 o] 29)) := (Below.refl _ _).alloc (Nat.le_refl _) _
  rcases (show (1 ≤ f ∧ f ≤ 4) ∨ f = 17 ∨ f = 43 ∨ (¬ (1 ≤ f ∧ f ≤ 4) ∧ f ≠ 17 ∧ f ≠ 43) by omega) with ⟨f1, f4⟩ | rfl | rfl | ⟨hf, f17, f43⟩
  · obtain ⟨m, hm⟩ : ∃ m, limZ f = m := ⟨_, rfl⟩
    have hmb : 125 ≤ m ∧ m ≤ 2000 := by rcases (show f = 1 ∨ f = 2 ∨ f = 3 ∨ f = 4 by omega) with rfl | rfl | rfl | rfl <;> subst hm <;> decide
    have hl : ∀ w, Calls Try.prog 38 #[.int .i64 f] w fun e w' => e = .returned (.int .i64 m) ∧ w = w' := fun w => hm ▸ lim_any f w
    have ht : ∀ w, Calls Try.prog 37 #[.int .i64 f] w fun e w' => e = .returned (.bool true) ∧ w = w' := fun w => by
      have := istab_any f w
      rw [show tabB f = true by simp [tabB]; omega] at this
      exact this
    have HT := Lib.hid ht; clear ht
    have HL := Lib.hid hl; clear hl
    have hz : vq f a n c o = decide (0 ≤ a ∧ 1 ≤ n ∧ n ≤ m ∧ a ≤ 65536 - n ∧ c = 0 ∧ o = 0) := by
      simp only [vq, hm]; apply decide_eq_decide.2; omega
    rw [hz]; clear hz hm
    rcases (show ((¬ 0 ≤ a)) ∨ ((0 ≤ a) ∧ (¬ 1 ≤ n)) ∨ ((0 ≤ a) ∧ (1 ≤ n) ∧ (¬ n ≤ m)) ∨ ((0 ≤ a) ∧ (1 ≤ n) ∧ (n ≤ m) ∧ (¬ a ≤ 65536 - n)) ∨ ((0 ≤ a) ∧ (1 ≤ n) ∧ (n ≤ m) ∧ (a ≤ 65536 - n) ∧ (¬ c = 0)) ∨ ((0 ≤ a) ∧ (1 ≤ n) ∧ (n ≤ m) ∧ (a ≤ 65536 - n) ∧ (c = 0) ∧ (¬ o = 0)) ∨ ((0 ≤ a) ∧ (1 ≤ n) ∧ (n ≤ m) ∧ (a ≤ 65536 - n) ∧ (c = 0) ∧ (o = 0)) by omega) with k | ⟨g0, k⟩ | ⟨g0, g1, k⟩ | ⟨g0, g1, g2, k⟩ | ⟨g0, g1, g2, g3, k⟩ | ⟨g0, g1, g2, g3, rfl, k⟩ | ⟨g0, g1, g2, g3, rfl, rfl⟩
    · skip
      rw [show decide (0 ≤ a ∧ 1 ≤ n ∧ n ≤ m ∧ a ≤ 65536 - n ∧ c = 0 ∧ o = 0) = false by simp; omega]
      have hg : decide (0 ≤ a) = false := by simp; omega
      go_enter Try.func22, Try.ntmps22
      go_wp2_with fail
      refine (HT.out _).mono ?_
      rintro e w' ⟨rfl, rfl⟩
      go_wp2
      go_quiet ((go_at_call 38; exact quiet_left (HL.out _)))
      go_wp2
      go_ret
      exact ⟨rfl, below_drewN hB _⟩
    · skip
      rw [show decide (0 ≤ a ∧ 1 ≤ n ∧ n ≤ m ∧ a ≤ 65536 - n ∧ c = 0 ∧ o = 0) = false by simp; omega]
      have hg : decide (1 ≤ n) = false := by simp; omega
      go_enter Try.func22, Try.ntmps22
      go_wp2_with fail
      refine (HT.out _).mono ?_
      rintro e w' ⟨rfl, rfl⟩
      go_wp2
      go_quiet ((go_at_call 38; exact quiet_left (HL.out _)))
      go_wp2
      go_ret
      exact ⟨rfl, below_drewN hB _⟩
    · skip
      rw [show decide (0 ≤ a ∧ 1 ≤ n ∧ n ≤ m ∧ a ≤ 65536 - n ∧ c = 0 ∧ o = 0) = false by simp; omega]
      have hg : decide (n ≤ m) = false := by simp; omega
      go_enter Try.func22, Try.ntmps22
      go_wp2_with fail
      refine (HT.out _).mono ?_
      rintro e w' ⟨rfl, rfl⟩
      go_wp2
      go_quiet ((go_at_call 38; exact quiet_left (HL.out _)))
      go_wp2
      go_ret
      exact ⟨rfl, below_drewN hB _⟩
    · skip
      rw [show decide (0 ≤ a ∧ 1 ≤ n ∧ n ≤ m ∧ a ≤ 65536 - n ∧ c = 0 ∧ o = 0) = false by simp; omega]
      have hg : decide (a ≤ 65536 - n) = false := by simp; omega
      go_enter Try.func22, Try.ntmps22
      go_wp2_with fail
      refine (HT.out _).mono ?_
      rintro e w' ⟨rfl, rfl⟩
      go_wp2
      go_quiet ((go_at_call 38; exact quiet_left (HL.out _)))
      go_wp2
      go_ret
      exact ⟨rfl, below_drewN hB _⟩
    · skip
      rw [show decide (0 ≤ a ∧ 1 ≤ n ∧ n ≤ m ∧ a ≤ 65536 - n ∧ c = 0 ∧ o = 0) = false by simp; omega]
      have hg : (c == 0) = false := by simp; omega
      go_enter Try.func22, Try.ntmps22
      go_wp2_with fail
      refine (HT.out _).mono ?_
      rintro e w' ⟨rfl, rfl⟩
      go_wp2
      go_quiet ((go_at_call 38; exact quiet_left (HL.out _)))
      go_wp2
      go_ret
      exact ⟨rfl, below_drewN hB _⟩
    · skip
      rw [show decide (0 ≤ a ∧ 1 ≤ n ∧ n ≤ m ∧ a ≤ 65536 - n ∧ (0 : Int) = 0 ∧ o = 0) = false by simp; omega]
      have hg : (o == 0) = false := by simp; omega
      go_enter Try.func22, Try.ntmps22
      go_wp2_with fail
      refine (HT.out _).mono ?_
      rintro e w' ⟨rfl, rfl⟩
      go_wp2
      go_quiet ((go_at_call 38; exact quiet_left (HL.out _)))
      go_wp2
      go_ret
      exact ⟨rfl, below_drewN hB _⟩
    · skip
      rw [show decide (0 ≤ a ∧ 1 ≤ n ∧ n ≤ m ∧ a ≤ 65536 - n ∧ (0 : Int) = 0 ∧ (0 : Int) = 0) = true by simp; omega]
      go_enter Try.func22, Try.ntmps22
      go_wp2_with fail
      refine (HT.out _).mono ?_
      rintro e w' ⟨rfl, rfl⟩
      go_wp2
      go_quiet ((go_at_call 38; exact quiet_left (HL.out _)))
      go_wp2
      go_ret
      exact ⟨rfl, below_drewN hB _⟩
  · have ht : ∀ w, Calls Try.prog 37 #[.int .i64 17] w fun e w' => e = .returned (.bool false) ∧ w = w' := fun w => istab_any 17 w
    have HT := Lib.hid ht; clear ht
    rcases (show ¬ a = 0 ∨ (a = 0 ∧ ¬ n = 0) ∨ (a = 0 ∧ n = 0 ∧ ¬ c = 0) ∨ (a = 0 ∧ n = 0 ∧ c = 0 ∧ ¬ o = 0) ∨ (a = 0 ∧ n = 0 ∧ c = 0 ∧ o = 0) by omega) with k | ⟨rfl, k⟩ | ⟨rfl, rfl, k⟩ | ⟨rfl, rfl, rfl, k⟩ | ⟨rfl, rfl, rfl, rfl⟩
    · rw [show vq 17 a n c o = false by simp [vq]; omega]
      go_enter Try.func22, Try.ntmps22
      go_wp2_with fail
      refine (HT.out _).mono ?_
      rintro e w' ⟨rfl, rfl⟩
      go_wp2
      go_ret
      exact ⟨rfl, hB⟩
    · rw [show vq 17 0 n c o = false by simp [vq]; omega]
      go_enter Try.func22, Try.ntmps22
      go_wp2_with fail
      refine (HT.out _).mono ?_
      rintro e w' ⟨rfl, rfl⟩
      go_wp2
      go_ret
      exact ⟨rfl, hB⟩
    · rw [show vq 17 0 0 c o = false by simp [vq]; omega]
      go_enter Try.func22, Try.ntmps22
      go_wp2_with fail
      refine (HT.out _).mono ?_
      rintro e w' ⟨rfl, rfl⟩
      go_wp2
      go_ret
      exact ⟨rfl, hB⟩
    · rw [show vq 17 0 0 0 o = false by simp [vq]; omega]
      go_enter Try.func22, Try.ntmps22
      go_wp2_with fail
      refine (HT.out _).mono ?_
      rintro e w' ⟨rfl, rfl⟩
      go_wp2
      go_ret
      exact ⟨rfl, hB⟩
    · rw [show vq 17 0 0 0 0 = true by decide]
      go_enter Try.func22, Try.ntmps22
      go_wp2_with fail
      refine (HT.out _).mono ?_
      rintro e w' ⟨rfl, rfl⟩
      go_wp2
      go_ret
      exact ⟨rfl, hB⟩
  · have ht : ∀ w, Calls Try.prog 37 #[.int .i64 43] w fun e w' => e = .returned (.bool false) ∧ w = w' := fun w => istab_any 43 w
    have HT := Lib.hid ht; clear ht
    have hz : vq 43 a n c o = decide (1 ≤ c ∧ c ≤ 3 ∧ 0 ≤ o ∧ o ≤ 255 ∧ a = 0 ∧ n = 0) := by
      simp only [vq]; apply decide_eq_decide.2
      constructor
      · rintro (⟨_, h, _⟩ | ⟨h, _⟩ | ⟨_, h1, h2, h3, h4, h5, h6⟩)
        · omega
        · omega
        · exact ⟨by omega, by omega, by omega, by omega, by omega, by omega⟩
      · rintro ⟨h1, h2, h3, h4, h5, h6⟩
        exact .inr (.inr ⟨by trivial, by omega, by omega, by omega, by omega, by omega, by omega⟩)
    rw [hz]; clear hz
    rcases (show ((¬ 1 ≤ c)) ∨ ((1 ≤ c) ∧ (¬ c ≤ 3)) ∨ ((1 ≤ c) ∧ (c ≤ 3) ∧ (¬ 0 ≤ o)) ∨ ((1 ≤ c) ∧ (c ≤ 3) ∧ (0 ≤ o) ∧ (¬ o ≤ 255)) ∨ ((1 ≤ c) ∧ (c ≤ 3) ∧ (0 ≤ o) ∧ (o ≤ 255) ∧ (¬ a = 0)) ∨ ((1 ≤ c) ∧ (c ≤ 3) ∧ (0 ≤ o) ∧ (o ≤ 255) ∧ (a = 0) ∧ (¬ n = 0)) ∨ ((1 ≤ c) ∧ (c ≤ 3) ∧ (0 ≤ o) ∧ (o ≤ 255) ∧ (a = 0) ∧ (n = 0)) by omega) with k | ⟨gc1, k⟩ | ⟨gc1, gc3, k⟩ | ⟨gc1, gc3, go0, k⟩ | ⟨gc1, gc3, go0, go255, k⟩ | ⟨gc1, gc3, go0, go255, rfl, k⟩ | ⟨gc1, gc3, go0, go255, rfl, rfl⟩
    · rw [show decide (1 ≤ c ∧ c ≤ 3 ∧ 0 ≤ o ∧ o ≤ 255 ∧ a = 0 ∧ n = 0) = false by simp; omega]
      have hg : decide (1 ≤ c) = false := by simp; omega
      go_enter Try.func22, Try.ntmps22
      go_wp2_with fail
      refine (HT.out _).mono ?_
      rintro e w' ⟨rfl, rfl⟩
      go_wp2
      go_ret
      exact ⟨rfl, hB⟩
    · rw [show decide (1 ≤ c ∧ c ≤ 3 ∧ 0 ≤ o ∧ o ≤ 255 ∧ a = 0 ∧ n = 0) = false by simp; omega]
      have hg : decide (c ≤ 3) = false := by simp; omega
      go_enter Try.func22, Try.ntmps22
      go_wp2_with fail
      refine (HT.out _).mono ?_
      rintro e w' ⟨rfl, rfl⟩
      go_wp2
      go_ret
      exact ⟨rfl, hB⟩
    · rw [show decide (1 ≤ c ∧ c ≤ 3 ∧ 0 ≤ o ∧ o ≤ 255 ∧ a = 0 ∧ n = 0) = false by simp; omega]
      have hg : decide (0 ≤ o) = false := by simp; omega
      go_enter Try.func22, Try.ntmps22
      go_wp2_with fail
      refine (HT.out _).mono ?_
      rintro e w' ⟨rfl, rfl⟩
      go_wp2
      go_ret
      exact ⟨rfl, hB⟩
    · rw [show decide (1 ≤ c ∧ c ≤ 3 ∧ 0 ≤ o ∧ o ≤ 255 ∧ a = 0 ∧ n = 0) = false by simp; omega]
      have hg : decide (o ≤ 255) = false := by simp; omega
      go_enter Try.func22, Try.ntmps22
      go_wp2_with fail
      refine (HT.out _).mono ?_
      rintro e w' ⟨rfl, rfl⟩
      go_wp2
      go_ret
      exact ⟨rfl, hB⟩
    · rw [show decide (1 ≤ c ∧ c ≤ 3 ∧ 0 ≤ o ∧ o ≤ 255 ∧ a = 0 ∧ n = 0) = false by simp; omega]
      have hg : (a == 0) = false := by simp; omega
      go_enter Try.func22, Try.ntmps22
      go_wp2_with fail
      refine (HT.out _).mono ?_
      rintro e w' ⟨rfl, rfl⟩
      go_wp2
      go_ret
      exact ⟨rfl, hB⟩
    · rw [show decide (1 ≤ c ∧ c ≤ 3 ∧ 0 ≤ o ∧ o ≤ 255 ∧ (0 : Int) = 0 ∧ n = 0) = false by simp; omega]
      have hg : (n == 0) = false := by simp; omega
      go_enter Try.func22, Try.ntmps22
      go_wp2_with fail
      refine (HT.out _).mono ?_
      rintro e w' ⟨rfl, rfl⟩
      go_wp2
      go_ret
      exact ⟨rfl, hB⟩
    · rw [show decide (1 ≤ c ∧ c ≤ 3 ∧ 0 ≤ o ∧ o ≤ 255 ∧ (0 : Int) = 0 ∧ (0 : Int) = 0) = true by simp; omega]
      go_enter Try.func22, Try.ntmps22
      go_wp2_with fail
      refine (HT.out _).mono ?_
      rintro e w' ⟨rfl, rfl⟩
      go_wp2
      go_ret
      exact ⟨rfl, hB⟩
  · rw [show vq f a n c o = false by simp [vq]; omega]
    have ht : ∀ w, Calls Try.prog 37 #[.int .i64 f] w fun e w' => e = .returned (.bool false) ∧ w = w' := fun w => by
      have := istab_any f w
      rw [show tabB f = false by simp [tabB]; omega] at this
      exact this
    have HT := Lib.hid ht; clear ht
    clear hf
    go_enter Try.func22, Try.ntmps22
    go_wp2_with fail
    refine (HT.out _).mono ?_
    rintro e w' ⟨rfl, rfl⟩
    go_wp2
    go_ret
    exact ⟨rfl, hB⟩

end Go.Proofs.Ytoliplochipoeaa

/- Layer 5: contracts of setting.Valid and of the reference's All and Valid. -/
import Derived.Test.YtoliplochipoeaaTSet
import Derived.Test.YtoliplochipoeaaReg
set_option linter.unusedVariables false
set_option linter.unusedSimpArgs false
namespace Go.Proofs.Ytoliplochipoeaa
open Go.RowKit

set_option maxHeartbeats 1000000 in
theorem valid_any (b p : Int) (r : Bool) (hr : validB b p = r) (w : World) : Calls Try.prog 29 #[.agg #[.int .i64 b, .int .i64 p]] w fun e w' => e = .returned (.bool r) ∧ Below w.heap.size w w' := by
  obtain ⟨y, hy⟩ : ∃ y, decide (b ∈ bauds) = y := ⟨_, rfl⟩
  have hr' : (y && decide (0 ≤ p ∧ p ≤ 2)) = r := by rw [← hr, validB, hy]
  have HY := Lib.hid hy
  clear hr hy
  cases y
  · have e : r = false := by simpa using hr'.symm
    subst e
    clear hr'
    go_enter Try.func29, Try.ntmps29
    go_wp2
    refine rg_start (by kernel_rfl) ?_
    refine rg_t (v := ?_) (some 4) 1 (by kernel_rfl) rfl rfl (.inl ⟨by rfl, fun w' hw q => ?_⟩) ?_
    rotate_left
    · go_simp <;> with_reducible rfl
    try simp only [Act.put, List.setIfInBounds_toArray, List.set_cons_zero, List.set_cons_succ]
    refine rg_t (v := ?_) (some 5) 2 (by kernel_rfl) rfl rfl (.inl ⟨by rfl, fun w' hw q => ?_⟩) ?_
    rotate_left
    · go_simp <;> with_reducible rfl
    try simp only [Act.put, List.setIfInBounds_toArray, List.set_cons_zero, List.set_cons_succ]
    refine rg_c 0 (by kernel_rfl) rfl (by rfl) (fun K hK => ?_)
    go_simp
    refine (bauds_any _).mono ?_
    rintro e w1 ⟨A1, rfl, hR1, hb1⟩
    have hb2 := ((Below.refl _ (w.alloc (.cells #[.int .i64 b, .int .i64 p] 24))).drew).trans hb1
    obtain ⟨q1, _, l1⟩ := box_new hb2
    have hbw := ext_alloc' (Below.refl _ w) (by simpa using hb2)
    clear hb2
    refine hK _ _ hb1 ?_
    clear hb1
    clear hK K
    try simp only [Act.put, List.setIfInBounds_toArray, List.set_cons_zero, List.set_cons_succ]
    refine rg_c 3 (by kernel_rfl) rfl (by rfl) (fun K hK => ?_)
    go_simp
    refine (contains_any bauds b 8 _ 8 _ false _ hR1 (by simp [maxLen]) HY.out).mono ?_
    rintro e w2 ⟨rfl, rfl⟩
    refine hK _ _ (Below.refl _ _) ?_
    clear hK K
    try simp only [Act.put, List.setIfInBounds_toArray, List.set_cons_zero, List.set_cons_succ]
    refine rg_t (v := ?_) (some 7) 4 (by kernel_rfl) rfl rfl (.inl ⟨by rfl, fun w' hw q => ?_⟩) ?_
    rotate_left
    · go_simp <;> with_reducible rfl
    try simp only [Act.put, List.setIfInBounds_toArray, List.set_cons_zero, List.set_cons_succ]
    refine rg_t (some 8) 5 (by kernel_rfl) rfl rfl (.inr ⟨by rfl, rfl⟩) ?_
    try simp only [Act.put, List.setIfInBounds_toArray, List.set_cons_zero, List.set_cons_succ]
    refine rg_t (some 9) 6 (by kernel_rfl) rfl rfl (.inr ⟨by rfl, rfl⟩) ?_
    try simp only [Act.put, List.setIfInBounds_toArray, List.set_cons_zero, List.set_cons_succ]
    refine rg_t (some 10) 7 (by kernel_rfl) rfl rfl (.inr ⟨by rfl, rfl⟩) ?_
    try simp only [Act.put, List.setIfInBounds_toArray, List.set_cons_zero, List.set_cons_succ]
    refine rg_t (v := ?_) (some 11) 8 (by kernel_rfl) rfl rfl (.inl ⟨by rfl, fun w' hw q => ?_⟩) ?_
    rotate_left
    · go_simp <;> with_reducible rfl
    try simp only [Act.put, List.setIfInBounds_toArray, List.set_cons_zero, List.set_cons_succ]
    refine rg_t (v := ?_) (some 12) 9 (by kernel_rfl) rfl rfl (.inl ⟨by rfl, fun w' hw q => ?_⟩) ?_
    rotate_left
    · go_simp <;> with_reducible rfl
    try simp only [Act.put, List.setIfInBounds_toArray, List.set_cons_zero, List.set_cons_succ]
    refine rg_t (some 13) 10 (by kernel_rfl) rfl rfl (.inr ⟨by rfl, rfl⟩) ?_
    try simp only [Act.put, List.setIfInBounds_toArray, List.set_cons_zero, List.set_cons_succ]
    refine rg_t (some 14) 11 (by kernel_rfl) rfl rfl (.inr ⟨by rfl, rfl⟩) ?_
    try simp only [Act.put, List.setIfInBounds_toArray, List.set_cons_zero, List.set_cons_succ]
    refine rg_t (some 15) 12 (by kernel_rfl) rfl rfl (.inr ⟨by rfl, rfl⟩) ?_
    try simp only [Act.put, List.setIfInBounds_toArray, List.set_cons_zero, List.set_cons_succ]
    refine rg_t (v := ?_) (some 16) 13 (by kernel_rfl) rfl rfl (.inl ⟨by rfl, fun w' hw q => ?_⟩) ?_
    rotate_left
    · go_simp <;> with_reducible rfl
    try simp only [Act.put, List.setIfInBounds_toArray, List.set_cons_zero, List.set_cons_succ]
    refine rg_t (v := ?_) (some 2) 14 (by kernel_rfl) rfl rfl (.inl ⟨by rfl, fun w' hw q => ?_⟩) ?_
    rotate_left
    · go_simp <;> with_reducible rfl
    try simp only [Act.put, List.setIfInBounds_toArray, List.set_cons_zero, List.set_cons_succ]
    refine rg_d (by kernel_rfl) ?_
    go_wp2
    go_ret
    exact ⟨rfl, by assumption⟩
  · cases r
    · rcases (show p < 0 ∨ (0 ≤ p ∧ 2 < p) by simp at hr'; omega) with h | ⟨h0, h⟩
      · have hg : decide (0 ≤ p) = false := by simp; omega
        clear hr'
        go_enter Try.func29, Try.ntmps29
        go_wp2
        refine rg_start (by kernel_rfl) ?_
        refine rg_t (v := ?_) (some 4) 1 (by kernel_rfl) rfl rfl (.inl ⟨by rfl, fun w' hw q => ?_⟩) ?_
        rotate_left
        · go_simp <;> with_reducible rfl
        try simp only [Act.put, List.setIfInBounds_toArray, List.set_cons_zero, List.set_cons_succ]
        refine rg_t (v := ?_) (some 5) 2 (by kernel_rfl) rfl rfl (.inl ⟨by rfl, fun w' hw q => ?_⟩) ?_
        rotate_left
        · go_simp <;> with_reducible rfl
        try simp only [Act.put, List.setIfInBounds_toArray, List.set_cons_zero, List.set_cons_succ]
        refine rg_c 0 (by kernel_rfl) rfl (by rfl) (fun K hK => ?_)
        go_simp
        refine (bauds_any _).mono ?_
        rintro e w1 ⟨A1, rfl, hR1, hb1⟩
        have hb2 := ((Below.refl _ (w.alloc (.cells #[.int .i64 b, .int .i64 p] 24))).drew).trans hb1
        obtain ⟨q1, _, l1⟩ := box_new hb2
        have hbw := ext_alloc' (Below.refl _ w) (by simpa using hb2)
        clear hb2
        refine hK _ _ hb1 ?_
        clear hb1
        clear hK K
        try simp only [Act.put, List.setIfInBounds_toArray, List.set_cons_zero, List.set_cons_succ]
        refine rg_c 3 (by kernel_rfl) rfl (by rfl) (fun K hK => ?_)
        go_simp
        refine (contains_any bauds b 8 _ 8 _ true _ hR1 (by simp [maxLen]) HY.out).mono ?_
        rintro e w2 ⟨rfl, rfl⟩
        refine hK _ _ (Below.refl _ _) ?_
        clear hK K
        try simp only [Act.put, List.setIfInBounds_toArray, List.set_cons_zero, List.set_cons_succ]
        refine rg_t (v := ?_) (some 7) 4 (by kernel_rfl) rfl rfl (.inl ⟨by rfl, fun w' hw q => ?_⟩) ?_
        rotate_left
        · go_simp <;> with_reducible rfl
        try simp only [Act.put, List.setIfInBounds_toArray, List.set_cons_zero, List.set_cons_succ]
        refine rg_t (v := ?_) (some 8) 5 (by kernel_rfl) rfl rfl (.inl ⟨by rfl, fun w' hw q => ?_⟩) ?_
        rotate_left
        · go_simp <;> with_reducible rfl
        try simp only [Act.put, List.setIfInBounds_toArray, List.set_cons_zero, List.set_cons_succ]
        refine rg_t (v := ?_) (some 9) 6 (by kernel_rfl) rfl rfl (.inl ⟨by rfl, fun w' hw q => ?_⟩) ?_
        rotate_left
        · go_simp <;> with_reducible rfl
        try simp only [Act.put, List.setIfInBounds_toArray, List.set_cons_zero, List.set_cons_succ]
        refine rg_t (v := ?_) (some 10) 7 (by kernel_rfl) rfl rfl (.inl ⟨by rfl, fun w' hw q => ?_⟩) ?_
        rotate_left
        · go_simp <;> with_reducible rfl
        try simp only [Act.put, List.setIfInBounds_toArray, List.set_cons_zero, List.set_cons_succ]
        refine rg_t (v := ?_) (some 11) 8 (by kernel_rfl) rfl rfl (.inl ⟨by rfl, fun w' hw q => ?_⟩) ?_
        rotate_left
        · go_simp <;> with_reducible rfl
        try simp only [Act.put, List.setIfInBounds_toArray, List.set_cons_zero, List.set_cons_succ]
        refine rg_t (v := ?_) (some 12) 9 (by kernel_rfl) rfl rfl (.inl ⟨by rfl, fun w' hw q => ?_⟩) ?_
        rotate_left
        · go_simp <;> with_reducible rfl
        try simp only [Act.put, List.setIfInBounds_toArray, List.set_cons_zero, List.set_cons_succ]
        refine rg_t (some 13) 10 (by kernel_rfl) rfl rfl (.inr ⟨by rfl, rfl⟩) ?_
        try simp only [Act.put, List.setIfInBounds_toArray, List.set_cons_zero, List.set_cons_succ]
        refine rg_t (some 14) 11 (by kernel_rfl) rfl rfl (.inr ⟨by rfl, rfl⟩) ?_
        try simp only [Act.put, List.setIfInBounds_toArray, List.set_cons_zero, List.set_cons_succ]
        refine rg_t (some 15) 12 (by kernel_rfl) rfl rfl (.inr ⟨by rfl, rfl⟩) ?_
        try simp only [Act.put, List.setIfInBounds_toArray, List.set_cons_zero, List.set_cons_succ]
        refine rg_t (v := ?_) (some 16) 13 (by kernel_rfl) rfl rfl (.inl ⟨by rfl, fun w' hw q => ?_⟩) ?_
        rotate_left
        · go_simp <;> with_reducible rfl
        try simp only [Act.put, List.setIfInBounds_toArray, List.set_cons_zero, List.set_cons_succ]
        refine rg_t (v := ?_) (some 2) 14 (by kernel_rfl) rfl rfl (.inl ⟨by rfl, fun w' hw q => ?_⟩) ?_
        rotate_left
        · go_simp <;> with_reducible rfl
        try simp only [Act.put, List.setIfInBounds_toArray, List.set_cons_zero, List.set_cons_succ]
        refine rg_d (by kernel_rfl) ?_
        go_wp2
        go_ret
        exact ⟨rfl, by assumption⟩
      · have hg : decide (p ≤ 2) = false := by simp; omega
        clear hr'
        go_enter Try.func29, Try.ntmps29
        go_wp2
        refine rg_start (by kernel_rfl) ?_
        refine rg_t (v := ?_) (some 4) 1 (by kernel_rfl) rfl rfl (.inl ⟨by rfl, fun w' hw q => ?_⟩) ?_
        rotate_left
        · go_simp <;> with_reducible rfl
        try simp only [Act.put, List.setIfInBounds_toArray, List.set_cons_zero, List.set_cons_succ]
        refine rg_t (v := ?_) (some 5) 2 (by kernel_rfl) rfl rfl (.inl ⟨by rfl, fun w' hw q => ?_⟩) ?_
        rotate_left
        · go_simp <;> with_reducible rfl
        try simp only [Act.put, List.setIfInBounds_toArray, List.set_cons_zero, List.set_cons_succ]
        refine rg_c 0 (by kernel_rfl) rfl (by rfl) (fun K hK => ?_)
        go_simp
        refine (bauds_any _).mono ?_
        rintro e w1 ⟨A1, rfl, hR1, hb1⟩
        have hb2 := ((Below.refl _ (w.alloc (.cells #[.int .i64 b, .int .i64 p] 24))).drew).trans hb1
        obtain ⟨q1, _, l1⟩ := box_new hb2
        have hbw := ext_alloc' (Below.refl _ w) (by simpa using hb2)
        clear hb2
        refine hK _ _ hb1 ?_
        clear hb1
        clear hK K
        try simp only [Act.put, List.setIfInBounds_toArray, List.set_cons_zero, List.set_cons_succ]
        refine rg_c 3 (by kernel_rfl) rfl (by rfl) (fun K hK => ?_)
        go_simp
        refine (contains_any bauds b 8 _ 8 _ true _ hR1 (by simp [maxLen]) HY.out).mono ?_
        rintro e w2 ⟨rfl, rfl⟩
        refine hK _ _ (Below.refl _ _) ?_
        clear hK K
        try simp only [Act.put, List.setIfInBounds_toArray, List.set_cons_zero, List.set_cons_succ]
        refine rg_t (v := ?_) (some 7) 4 (by kernel_rfl) rfl rfl (.inl ⟨by rfl, fun w' hw q => ?_⟩) ?_
        rotate_left
        · go_simp <;> with_reducible rfl
        try simp only [Act.put, List.setIfInBounds_toArray, List.set_cons_zero, List.set_cons_succ]
        refine rg_t (v := ?_) (some 8) 5 (by kernel_rfl) rfl rfl (.inl ⟨by rfl, fun w' hw q => ?_⟩) ?_
        rotate_left
        · go_simp <;> with_reducible rfl
        try simp only [Act.put, List.setIfInBounds_toArray, List.set_cons_zero, List.set_cons_succ]
        refine rg_t (v := ?_) (some 9) 6 (by kernel_rfl) rfl rfl (.inl ⟨by rfl, fun w' hw q => ?_⟩) ?_
        rotate_left
        · go_simp <;> with_reducible rfl
        try simp only [Act.put, List.setIfInBounds_toArray, List.set_cons_zero, List.set_cons_succ]
        refine rg_t (v := ?_) (some 10) 7 (by kernel_rfl) rfl rfl (.inl ⟨by rfl, fun w' hw q => ?_⟩) ?_
        rotate_left
        · go_simp <;> with_reducible rfl
        try simp only [Act.put, List.setIfInBounds_toArray, List.set_cons_zero, List.set_cons_succ]
        refine rg_t (v := ?_) (some 11) 8 (by kernel_rfl) rfl rfl (.inl ⟨by rfl, fun w' hw q => ?_⟩) ?_
        rotate_left
        · go_simp <;> with_reducible rfl
        try simp only [Act.put, List.setIfInBounds_toArray, List.set_cons_zero, List.set_cons_succ]
        refine rg_t (v := ?_) (some 12) 9 (by kernel_rfl) rfl rfl (.inl ⟨by rfl, fun w' hw q => ?_⟩) ?_
        rotate_left
        · go_simp <;> with_reducible rfl
        try simp only [Act.put, List.setIfInBounds_toArray, List.set_cons_zero, List.set_cons_succ]
        refine rg_t (v := ?_) (some 13) 10 (by kernel_rfl) rfl rfl (.inl ⟨by rfl, fun w' hw q => ?_⟩) ?_
        rotate_left
        · go_simp <;> with_reducible rfl
        try simp only [Act.put, List.setIfInBounds_toArray, List.set_cons_zero, List.set_cons_succ]
        refine rg_t (v := ?_) (some 14) 11 (by kernel_rfl) rfl rfl (.inl ⟨by rfl, fun w' hw q => ?_⟩) ?_
        rotate_left
        · go_simp <;> with_reducible rfl
        try simp only [Act.put, List.setIfInBounds_toArray, List.set_cons_zero, List.set_cons_succ]
        refine rg_t (v := ?_) (some 15) 12 (by kernel_rfl) rfl rfl (.inl ⟨by rfl, fun w' hw q => ?_⟩) ?_
        rotate_left
        · go_simp <;> with_reducible rfl
        try simp only [Act.put, List.setIfInBounds_toArray, List.set_cons_zero, List.set_cons_succ]
        refine rg_t (v := ?_) (some 16) 13 (by kernel_rfl) rfl rfl (.inl ⟨by rfl, fun w' hw q => ?_⟩) ?_
        rotate_left
        · go_simp <;> with_reducible rfl
        try simp only [Act.put, List.setIfInBounds_toArray, List.set_cons_zero, List.set_cons_succ]
        refine rg_t (v := ?_) (some 2) 14 (by kernel_rfl) rfl rfl (.inl ⟨by rfl, fun w' hw q => ?_⟩) ?_
        rotate_left
        · go_simp <;> with_reducible rfl
        try simp only [Act.put, List.setIfInBounds_toArray, List.set_cons_zero, List.set_cons_succ]
        refine rg_d (by kernel_rfl) ?_
        go_wp2
        go_ret
        exact ⟨rfl, by assumption⟩
    · have h1 : 0 ≤ p ∧ p ≤ 2 := by simpa using hr'
      obtain ⟨h1, h2⟩ := h1
      clear hr'
      go_enter Try.func29, Try.ntmps29
      go_wp2
      refine rg_start (by kernel_rfl) ?_
      refine rg_t (v := ?_) (some 4) 1 (by kernel_rfl) rfl rfl (.inl ⟨by rfl, fun w' hw q => ?_⟩) ?_
      rotate_left
      · go_simp <;> with_reducible rfl
      try simp only [Act.put, List.setIfInBounds_toArray, List.set_cons_zero, List.set_cons_succ]
      refine rg_t (v := ?_) (some 5) 2 (by kernel_rfl) rfl rfl (.inl ⟨by rfl, fun w' hw q => ?_⟩) ?_
      rotate_left
      · go_simp <;> with_reducible rfl
      try simp only [Act.put, List.setIfInBounds_toArray, List.set_cons_zero, List.set_cons_succ]
      refine rg_c 0 (by kernel_rfl) rfl (by rfl) (fun K hK => ?_)
      go_simp
      refine (bauds_any _).mono ?_
      rintro e w1 ⟨A1, rfl, hR1, hb1⟩
      have hb2 := ((Below.refl _ (w.alloc (.cells #[.int .i64 b, .int .i64 p] 24))).drew).trans hb1
      obtain ⟨q1, _, l1⟩ := box_new hb2
      have hbw := ext_alloc' (Below.refl _ w) (by simpa using hb2)
      clear hb2
      refine hK _ _ hb1 ?_
      clear hb1
      clear hK K
      try simp only [Act.put, List.setIfInBounds_toArray, List.set_cons_zero, List.set_cons_succ]
      refine rg_c 3 (by kernel_rfl) rfl (by rfl) (fun K hK => ?_)
      go_simp
      refine (contains_any bauds b 8 _ 8 _ true _ hR1 (by simp [maxLen]) HY.out).mono ?_
      rintro e w2 ⟨rfl, rfl⟩
      refine hK _ _ (Below.refl _ _) ?_
      clear hK K
      try simp only [Act.put, List.setIfInBounds_toArray, List.set_cons_zero, List.set_cons_succ]
      refine rg_t (v := ?_) (some 7) 4 (by kernel_rfl) rfl rfl (.inl ⟨by rfl, fun w' hw q => ?_⟩) ?_
      rotate_left
      · go_simp <;> with_reducible rfl
      try simp only [Act.put, List.setIfInBounds_toArray, List.set_cons_zero, List.set_cons_succ]
      refine rg_t (v := ?_) (some 8) 5 (by kernel_rfl) rfl rfl (.inl ⟨by rfl, fun w' hw q => ?_⟩) ?_
      rotate_left
      · go_simp <;> with_reducible rfl
      try simp only [Act.put, List.setIfInBounds_toArray, List.set_cons_zero, List.set_cons_succ]
      refine rg_t (v := ?_) (some 9) 6 (by kernel_rfl) rfl rfl (.inl ⟨by rfl, fun w' hw q => ?_⟩) ?_
      rotate_left
      · go_simp <;> with_reducible rfl
      try simp only [Act.put, List.setIfInBounds_toArray, List.set_cons_zero, List.set_cons_succ]
      refine rg_t (v := ?_) (some 10) 7 (by kernel_rfl) rfl rfl (.inl ⟨by rfl, fun w' hw q => ?_⟩) ?_
      rotate_left
      · go_simp <;> with_reducible rfl
      try simp only [Act.put, List.setIfInBounds_toArray, List.set_cons_zero, List.set_cons_succ]
      refine rg_t (v := ?_) (some 11) 8 (by kernel_rfl) rfl rfl (.inl ⟨by rfl, fun w' hw q => ?_⟩) ?_
      rotate_left
      · go_simp <;> with_reducible rfl
      try simp only [Act.put, List.setIfInBounds_toArray, List.set_cons_zero, List.set_cons_succ]
      refine rg_t (v := ?_) (some 12) 9 (by kernel_rfl) rfl rfl (.inl ⟨by rfl, fun w' hw q => ?_⟩) ?_
      rotate_left
      · go_simp <;> with_reducible rfl
      try simp only [Act.put, List.setIfInBounds_toArray, List.set_cons_zero, List.set_cons_succ]
      refine rg_t (v := ?_) (some 13) 10 (by kernel_rfl) rfl rfl (.inl ⟨by rfl, fun w' hw q => ?_⟩) ?_
      rotate_left
      · go_simp <;> with_reducible rfl
      try simp only [Act.put, List.setIfInBounds_toArray, List.set_cons_zero, List.set_cons_succ]
      refine rg_t (v := ?_) (some 14) 11 (by kernel_rfl) rfl rfl (.inl ⟨by rfl, fun w' hw q => ?_⟩) ?_
      rotate_left
      · go_simp <;> with_reducible rfl
      try simp only [Act.put, List.setIfInBounds_toArray, List.set_cons_zero, List.set_cons_succ]
      refine rg_t (v := ?_) (some 15) 12 (by kernel_rfl) rfl rfl (.inl ⟨by rfl, fun w' hw q => ?_⟩) ?_
      rotate_left
      · go_simp <;> with_reducible rfl
      try simp only [Act.put, List.setIfInBounds_toArray, List.set_cons_zero, List.set_cons_succ]
      refine rg_t (v := ?_) (some 16) 13 (by kernel_rfl) rfl rfl (.inl ⟨by rfl, fun w' hw q => ?_⟩) ?_
      rotate_left
      · go_simp <;> with_reducible rfl
      try simp only [Act.put, List.setIfInBounds_toArray, List.set_cons_zero, List.set_cons_succ]
      refine rg_t (v := ?_) (some 2) 14 (by kernel_rfl) rfl rfl (.inl ⟨by rfl, fun w' hw q => ?_⟩) ?_
      rotate_left
      · go_simp <;> with_reducible rfl
      try simp only [Act.put, List.setIfInBounds_toArray, List.set_cons_zero, List.set_cons_succ]
      refine rg_d (by kernel_rfl) ?_
      go_wp2
      go_ret
      exact ⟨rfl, by assumption⟩

end Go.Proofs.Ytoliplochipoeaa

/- Layer 12: the law RangesValid. -/
import Derived.Test.YtebeaghombjooaaRq
import Derived.Test.YtebeaghombjooaaReg
set_option linter.unusedVariables false
set_option linter.unusedSimpArgs false
namespace Go.Proofs.Ytebeaghombjooaa
open Go.RowKit

set_option maxRecDepth 100000 in
set_option maxHeartbeats 8000000 in
theorem lawValid_any (l0 : List Rg) (A : Option Addr) (n c : Nat) (a x1 x2 : Int) (w : World) (hr : Rd w w.heap.size 2 A n (rgCells l0)) (hc : n ≤ c) (hcm : c ≤ maxLen) (ha : a ≤ 9223372036854775807) (hx2 : x2 ≤ 9223372036854775807) :
    Calls Try.prog 7 #[.slice A n c, .int .i64 a, .agg #[.int .i64 x1, .int .i64 x2]] w fun e w' => e = .returned (.bool true) ∧ Below w.heap.size w w' := by
  have hb0 : Below w.heap.size w (w.alloc (.cells #[.int .i64 x1, .int .i64 x2] 37)) := (Below.refl _ _).alloc (Nat.le_refl _) _
  have HS1 := Lib.hid (short_any l0 A n c _ _ (hr.below hb0 (Nat.le_refl _)) hc hcm)
  obtain ⟨l, hl⟩ : ∃ l, l0.take 12 = l := ⟨_, rfl⟩
  rw [hl] at HS1
  obtain ⟨X2, hX⟩ : ∃ X2, (if 3000 < x2 then x2 % 3000 else x2) = X2 := ⟨_, rfl⟩
  obtain ⟨r1, h1⟩ : ∃ r, validL l = r := ⟨_, rfl⟩
  obtain ⟨s, h2⟩ : ∃ r, sumL (setL l) = r := ⟨_, rfl⟩
  obtain ⟨r2, h3⟩ : ∃ r, inL (setL l) a = r := ⟨_, rfl⟩
  obtain ⟨r3, h4⟩ : ∃ r, covB l (x1, X2) = r := ⟨_, rfl⟩
  have HC1 := Lib.hid (fun (k B : Nat) (hk : k ≤ 12) (W : World) (h : Rd W B 2 A k (rgCells l)) => valid_any l A k c B W h (by omega) r1 h1)
  have HC2 := Lib.hid (fun (k B : Nat) (hk : k ≤ 12) (W : World) (h : Rd W B 2 A k (rgCells l)) => rvalid_any l A k c B W h (by omega) r1 h1)
  have HC3 := Lib.hid (fun (k B : Nat) (hk : k ≤ 12) (W : World) (h : Rd W B 2 A k (rgCells l)) => count_any l A k c B W h (by omega) s h2)
  have HC4 := Lib.hid (fun (k B : Nat) (hk : k ≤ 12) (W : World) (h : Rd W B 2 A k (rgCells l)) => rcount_any l A k c B W h (by omega) s h2)
  have HC5 := Lib.hid (fun (k B : Nat) (hk : k ≤ 12) (W : World) (h : Rd W B 2 A k (rgCells l)) => has_any l A k c B a W h (by omega) r2 h3)
  have HC6 := Lib.hid (fun (k B : Nat) (hk : k ≤ 12) (W : World) (h : Rd W B 2 A k (rgCells l)) => rin_any l A k c B a W h (by omega) ha r2 h3)
  have HC7 := Lib.hid (fun (k B : Nat) (hk : k ≤ 12) (W : World) (h : Rd W B 2 A k (rgCells l)) => show Calls Try.prog 27 #[.slice A k c, .agg #[.int .i64 x1, .int .i64 X2]] W _ from covers_any l A k c B (x1, X2) W h (by omega) r3 h4)
  have HC8 := Lib.hid (fun (k B : Nat) (hk : k ≤ 12) (W : World) (h : Rd W B 2 A k (rgCells l)) => show Calls Try.prog 28 #[.slice A k c, .agg #[.int .i64 x1, .int .i64 X2]] W _ from rcovers_any l A k c B (x1, X2) W h (by omega) r3 (by rw [← cov_eq]; exact h4))
  have e1 : (r1 == r1) = true := by simp
  have e2 : (s == s) = true := by simp
  have e3 : (r2 == r2) = true := by simp
  have e4 : (r3 == r3) = true := by simp
  have HX := Lib.hid (Box.alloc_ (w := w) (cs := #[.int .i64 x1, .int .i64 X2]) (e := 37))
  have HB := Lib.hid (show Below w.heap.size w (w.alloc (.cells #[.int .i64 x1, .int .i64 X2] 37)) from (Below.refl _ _).alloc (Nat.le_refl _) _)
  have HRK := Lib.hid (fun (k : Nat) (h : Rd (w.alloc (.cells #[.int .i64 x1, .int .i64 x2] 37)) w.heap.size 2 A k (rgCells l)) => show Rd (w.alloc (.cells #[.int .i64 x1, .int .i64 X2] 37)) w.heap.size 2 A k (rgCells l) from h.keep fun p hp => by rw [World.cell?_alloc_lt _ _ p hp, World.cell?_alloc_lt _ _ p hp])
  have hcase : (3000 < x2 ∧ x2 % 3000 = X2) ∨ (decide (3000 < x2) = false ∧ X2 = x2) := by
    by_cases h : 3000 < x2
    · left; rw [if_pos h] at hX; exact ⟨h, hX⟩
    · right; rw [if_neg h] at hX; exact ⟨by simpa using h, hX.symm⟩
  clear hr hc hcm hl hX h1 h2 h3 h4 hb0 ha
  rcases hcase with ⟨d1, d2⟩ | ⟨d1, rfl⟩
  all_goals
    go_enter Try.func7, Try.ntmps7
    go_wp2_with fail
    refine HS1.out.mono ?_
    rintro e w0 ⟨⟨k, rfl, hk, _, hR0⟩, rfl⟩
    go_wp2_with fail
    try rw [d2]
    have HR0 := Lib.hid ((HRK.out k hR0).more (show w.heap.size ≤ _ from HB.out.size))
    clear hR0 HS1 HRK
    obtain ⟨W0, hW0⟩ : ∃ W0, w.alloc (.cells #[.int .i64 x1, .int .i64 X2] 37) = W0 := ⟨_, rfl⟩
    rw [hW0] at HX HB HR0 ⊢
    clear hW0
    have HX0 := Lib.hid (show Box W0.drew w.heap.size #[.int .i64 x1, .int .i64 X2] from HX.out)
    have HB0 := Lib.hid (show Below w.heap.size w W0.drew from below_drew HB.out)
    have HR0' := Lib.hid (show Rd W0.drew W0.drew.heap.size 2 A k (rgCells l) from HR0.out)
    clear HX HB HR0
    refine rg_start (by kernel_rfl) ?_
    refine rg_c 0 (by kernel_rfl) rfl (by rfl) (fun K hK => ?_)
    go_simp
    refine (awake_any _).mono ?_
    rintro e w1 ⟨rfl, hb1⟩
    have HR1 := Lib.hid ((HR0'.out.below hb1 (Nat.le_refl _)).more hb1.size)
    have HX1 := Lib.hid (HX0.out.below hb1)
    have HB1 := Lib.hid (ext_trans HB0.out hb1)
    refine hK _ _ hb1 ?_
    clear hb1 HX0 HB0
    clear hK K
    try simp only [Act.put, List.setIfInBounds_toArray, List.set_cons_zero, List.set_cons_succ]
    refine rg_t (v := ?_) (some 17) 1 (by kernel_rfl) rfl rfl (.inl ⟨by rfl, fun w' hw q => ?_⟩) ?_
    rotate_left
    · go_simp <;> with_reducible rfl
    try simp only [Act.put, List.setIfInBounds_toArray, List.set_cons_zero, List.set_cons_succ]
    refine rg_t (v := ?_) (some 18) 2 (by kernel_rfl) rfl rfl (.inl ⟨by rfl, fun w' hw q => ?_⟩) ?_
    rotate_left
    · go_simp <;> with_reducible rfl
    try simp only [Act.put, List.setIfInBounds_toArray, List.set_cons_zero, List.set_cons_succ]
    refine rg_t (v := ?_) (some 20) 4 (by kernel_rfl) rfl rfl (.inl ⟨by rfl, fun w' hw q => ?_⟩) ?_
    rotate_left
    · go_simp <;> with_reducible rfl
    try simp only [Act.put, List.setIfInBounds_toArray, List.set_cons_zero, List.set_cons_succ]
    refine rg_c 3 (by kernel_rfl) rfl (by rfl) (fun K hK => ?_)
    go_simp
    refine (HC1.out k _ hk _ HR1.out).mono ?_
    rintro e w2 ⟨rfl, hb2⟩
    have HR2 := Lib.hid ((HR1.out.below hb2 (Nat.le_refl _)).more hb2.size)
    have HX2 := Lib.hid (HX1.out.below hb2)
    have HB2 := Lib.hid (ext_trans HB1.out hb2)
    refine hK _ _ hb2 ?_
    clear hb2 HX1 HB1
    clear hK K
    try simp only [Act.put, List.setIfInBounds_toArray, List.set_cons_zero, List.set_cons_succ]
    refine rg_c 5 (by kernel_rfl) rfl (by rfl) (fun K hK => ?_)
    go_simp
    refine (HC2.out k _ hk _ HR2.out).mono ?_
    rintro e w3 ⟨rfl, hb3⟩
    have HR3 := Lib.hid ((HR2.out.below hb3 (Nat.le_refl _)).more hb3.size)
    have HX3 := Lib.hid (HX2.out.below hb3)
    have HB3 := Lib.hid (ext_trans HB2.out hb3)
    refine hK _ _ hb3 ?_
    clear hb3 HX2 HB2
    clear hK K
    try simp only [Act.put, List.setIfInBounds_toArray, List.set_cons_zero, List.set_cons_succ]
    refine rg_t (v := ?_) (some 22) 6 (by kernel_rfl) rfl rfl (.inl ⟨by rfl, fun w' hw q => ?_⟩) ?_
    rotate_left
    · go_simp <;> with_reducible rfl
    try simp only [Act.put, List.setIfInBounds_toArray, List.set_cons_zero, List.set_cons_succ]
    refine rg_t (v := ?_) (some 23) 7 (by kernel_rfl) rfl rfl (.inl ⟨by rfl, fun w' hw q => ?_⟩) ?_
    rotate_left
    · go_simp <;> with_reducible rfl
    try simp only [Act.put, List.setIfInBounds_toArray, List.set_cons_zero, List.set_cons_succ]
    refine rg_t (v := ?_) (some 24) 8 (by kernel_rfl) rfl rfl (.inl ⟨by rfl, fun w' hw q => ?_⟩) ?_
    rotate_left
    · go_simp <;> with_reducible rfl
    try simp only [Act.put, List.setIfInBounds_toArray, List.set_cons_zero, List.set_cons_succ]
    refine rg_t (v := ?_) (some 25) 9 (by kernel_rfl) rfl rfl (.inl ⟨by rfl, fun w' hw q => ?_⟩) ?_
    rotate_left
    · go_simp <;> with_reducible rfl
    try simp only [Act.put, List.setIfInBounds_toArray, List.set_cons_zero, List.set_cons_succ]
    refine rg_t (v := ?_) (some 27) 11 (by kernel_rfl) rfl rfl (.inl ⟨by rfl, fun w' hw q => ?_⟩) ?_
    rotate_left
    · go_simp <;> with_reducible rfl
    try simp only [Act.put, List.setIfInBounds_toArray, List.set_cons_zero, List.set_cons_succ]
    refine rg_c 10 (by kernel_rfl) rfl (by rfl) (fun K hK => ?_)
    go_simp
    refine (HC3.out k _ hk _ HR3.out).mono ?_
    rintro e w4 ⟨rfl, hb4⟩
    have HR4 := Lib.hid ((HR3.out.below hb4 (Nat.le_refl _)).more hb4.size)
    have HX4 := Lib.hid (HX3.out.below hb4)
    have HB4 := Lib.hid (ext_trans HB3.out hb4)
    refine hK _ _ hb4 ?_
    clear hb4 HX3 HB3
    clear hK K
    try simp only [Act.put, List.setIfInBounds_toArray, List.set_cons_zero, List.set_cons_succ]
    refine rg_c 12 (by kernel_rfl) rfl (by rfl) (fun K hK => ?_)
    go_simp
    refine (HC4.out k _ hk _ HR4.out).mono ?_
    rintro e w5 ⟨rfl, hb5⟩
    have HR5 := Lib.hid ((HR4.out.below hb5 (Nat.le_refl _)).more hb5.size)
    have HX5 := Lib.hid (HX4.out.below hb5)
    have HB5 := Lib.hid (ext_trans HB4.out hb5)
    refine hK _ _ hb5 ?_
    clear hb5 HX4 HB4
    clear hK K
    try simp only [Act.put, List.setIfInBounds_toArray, List.set_cons_zero, List.set_cons_succ]
    refine rg_t (v := ?_) (some 29) 13 (by kernel_rfl) rfl rfl (.inl ⟨by rfl, fun w' hw q => ?_⟩) ?_
    rotate_left
    · go_simp <;> with_reducible rfl
    try simp only [Act.put, List.setIfInBounds_toArray, List.set_cons_zero, List.set_cons_succ]
    refine rg_t (v := ?_) (some 30) 14 (by kernel_rfl) rfl rfl (.inl ⟨by rfl, fun w' hw q => ?_⟩) ?_
    rotate_left
    · go_simp <;> with_reducible rfl
    try simp only [Act.put, List.setIfInBounds_toArray, List.set_cons_zero, List.set_cons_succ]
    refine rg_t (v := ?_) (some 31) 15 (by kernel_rfl) rfl rfl (.inl ⟨by rfl, fun w' hw q => ?_⟩) ?_
    rotate_left
    · go_simp <;> with_reducible rfl
    try simp only [Act.put, List.setIfInBounds_toArray, List.set_cons_zero, List.set_cons_succ]
    refine rg_t (v := ?_) (some 32) 16 (by kernel_rfl) rfl rfl (.inl ⟨by rfl, fun w' hw q => ?_⟩) ?_
    rotate_left
    · go_simp <;> with_reducible rfl
    try simp only [Act.put, List.setIfInBounds_toArray, List.set_cons_zero, List.set_cons_succ]
    refine rg_t (v := ?_) (some 33) 17 (by kernel_rfl) rfl rfl (.inl ⟨by rfl, fun w' hw q => ?_⟩) ?_
    rotate_left
    · go_simp <;> with_reducible rfl
    try simp only [Act.put, List.setIfInBounds_toArray, List.set_cons_zero, List.set_cons_succ]
    refine rg_t (v := ?_) (some 35) 19 (by kernel_rfl) rfl rfl (.inl ⟨by rfl, fun w' hw q => ?_⟩) ?_
    rotate_left
    · go_simp <;> with_reducible rfl
    try simp only [Act.put, List.setIfInBounds_toArray, List.set_cons_zero, List.set_cons_succ]
    refine rg_t (v := ?_) (some 36) 20 (by kernel_rfl) rfl rfl (.inl ⟨by rfl, fun w' hw q => ?_⟩) ?_
    rotate_left
    · go_simp <;> with_reducible rfl
    try simp only [Act.put, List.setIfInBounds_toArray, List.set_cons_zero, List.set_cons_succ]
    refine rg_c 18 (by kernel_rfl) rfl (by rfl) (fun K hK => ?_)
    go_simp
    refine (HC5.out k _ hk _ HR5.out).mono ?_
    rintro e w6 ⟨rfl, hb6⟩
    have HR6 := Lib.hid ((HR5.out.below hb6 (Nat.le_refl _)).more hb6.size)
    have HX6 := Lib.hid (HX5.out.below hb6)
    have HB6 := Lib.hid (ext_trans HB5.out hb6)
    refine hK _ _ hb6 ?_
    clear hb6 HX5 HB5
    clear hK K
    try simp only [Act.put, List.setIfInBounds_toArray, List.set_cons_zero, List.set_cons_succ]
    refine rg_c 21 (by kernel_rfl) rfl (by rfl) (fun K hK => ?_)
    go_simp
    refine (HC6.out k _ hk _ HR6.out).mono ?_
    rintro e w7 ⟨rfl, hb7⟩
    have HR7 := Lib.hid ((HR6.out.below hb7 (Nat.le_refl _)).more hb7.size)
    have HX7 := Lib.hid (HX6.out.below hb7)
    have HB7 := Lib.hid (ext_trans HB6.out hb7)
    obtain ⟨y, yz, yl⟩ := HX7.out
    have y0 : w7.cell? ⟨w.heap.size, 0, none⟩ = some (.int .i64 x1) := y 0
    have y1 : w7.cell? ⟨w.heap.size, 1, none⟩ = some (.int .i64 X2) := y 1
    clear y yz
    refine hK _ _ hb7 ?_
    clear hb7 HX6 HB6
    clear hK K
    try simp only [Act.put, List.setIfInBounds_toArray, List.set_cons_zero, List.set_cons_succ]
    refine rg_t (v := ?_) (some 38) 22 (by kernel_rfl) rfl rfl (.inl ⟨by rfl, fun w' hw q => ?_⟩) ?_
    rotate_left
    · go_simp <;> with_reducible rfl
    try simp only [Act.put, List.setIfInBounds_toArray, List.set_cons_zero, List.set_cons_succ]
    refine rg_t (v := ?_) (some 39) 23 (by kernel_rfl) rfl rfl (.inl ⟨by rfl, fun w' hw q => ?_⟩) ?_
    rotate_left
    · go_simp <;> with_reducible rfl
    try simp only [Act.put, List.setIfInBounds_toArray, List.set_cons_zero, List.set_cons_succ]
    refine rg_t (v := ?_) (some 40) 24 (by kernel_rfl) rfl rfl (.inl ⟨by rfl, fun w' hw q => ?_⟩) ?_
    rotate_left
    · go_simp <;> with_reducible rfl
    try simp only [Act.put, List.setIfInBounds_toArray, List.set_cons_zero, List.set_cons_succ]
    refine rg_t (v := ?_) (some 41) 25 (by kernel_rfl) rfl rfl (.inl ⟨by rfl, fun w' hw q => ?_⟩) ?_
    rotate_left
    · go_simp <;> with_reducible rfl
    try simp only [Act.put, List.setIfInBounds_toArray, List.set_cons_zero, List.set_cons_succ]
    refine rg_t (v := ?_) (some 42) 26 (by kernel_rfl) rfl rfl (.inl ⟨by rfl, fun w' hw q => ?_⟩) ?_
    rotate_left
    · go_simp <;> with_reducible rfl
    try simp only [Act.put, List.setIfInBounds_toArray, List.set_cons_zero, List.set_cons_succ]
    refine rg_t (v := ?_) (some 44) 28 (by kernel_rfl) rfl rfl (.inl ⟨by rfl, fun w' hw q => ?_⟩) ?_
    rotate_left
    · go_simp <;> with_reducible rfl
    try simp only [Act.put, List.setIfInBounds_toArray, List.set_cons_zero, List.set_cons_succ]
    refine rg_t (v := ?_) (some 45) 29 (by kernel_rfl) rfl rfl (.inl ⟨by rfl, fun w' hw q => ?_⟩) ?_
    rotate_left
    · go_simp <;> with_reducible rfl
    try simp only [Act.put, List.setIfInBounds_toArray, List.set_cons_zero, List.set_cons_succ]
    refine rg_c 27 (by kernel_rfl) rfl (by rfl) (fun K hK => ?_)
    go_simp
    refine (HC7.out k _ hk _ HR7.out).mono ?_
    rintro e w8 ⟨rfl, hb8⟩
    have HR8 := Lib.hid ((HR7.out.below hb8 (Nat.le_refl _)).more hb8.size)
    have HX8 := Lib.hid (HX7.out.below hb8)
    have HB8 := Lib.hid (ext_trans HB7.out hb8)
    refine hK _ _ hb8 ?_
    clear hb8 HX7 HB7
    clear hK K
    try simp only [Act.put, List.setIfInBounds_toArray, List.set_cons_zero, List.set_cons_succ]
    refine rg_c 30 (by kernel_rfl) rfl (by rfl) (fun K hK => ?_)
    go_simp
    refine (HC8.out k _ hk _ HR8.out).mono ?_
    rintro e w9 ⟨rfl, hb9⟩
    have HR9 := Lib.hid ((HR8.out.below hb9 (Nat.le_refl _)).more hb9.size)
    have HX9 := Lib.hid (HX8.out.below hb9)
    have HB9 := Lib.hid (ext_trans HB8.out hb9)
    refine hK _ _ hb9 ?_
    clear hb9 HX8 HB8
    clear hK K
    try simp only [Act.put, List.setIfInBounds_toArray, List.set_cons_zero, List.set_cons_succ]
    refine rg_t (v := ?_) (some 47) 31 (by kernel_rfl) rfl rfl (.inl ⟨by rfl, fun w' hw q => ?_⟩) ?_
    rotate_left
    · go_simp <;> with_reducible rfl
    try simp only [Act.put, List.setIfInBounds_toArray, List.set_cons_zero, List.set_cons_succ]
    refine rg_t (v := ?_) (some 48) 32 (by kernel_rfl) rfl rfl (.inl ⟨by rfl, fun w' hw q => ?_⟩) ?_
    rotate_left
    · go_simp <;> with_reducible rfl
    try simp only [Act.put, List.setIfInBounds_toArray, List.set_cons_zero, List.set_cons_succ]
    refine rg_t (v := ?_) (some 6) 33 (by kernel_rfl) rfl rfl (.inl ⟨by rfl, fun w' hw q => ?_⟩) ?_
    rotate_left
    · go_simp <;> with_reducible rfl
    try simp only [Act.put, List.setIfInBounds_toArray, List.set_cons_zero, List.set_cons_succ]
    refine rg_d (by kernel_rfl) ?_
    go_wp2
    go_ret
    exact ⟨by trivial, HB9.out⟩
end Go.Proofs.Ytebeaghombjooaa

/- The example of chapter 6 and the law TimingTells as contracts. -/
import Derived.Test.YtikhlmliefnccaaTim
import Derived.Test.YtikhlmliefnccaaMake
import Derived.Test.YtikhlmliefnccaaLib3
set_option linter.unusedVariables false
set_option linter.unusedSimpArgs false
namespace Go.Proofs.Ytikhlmliefnccaa
open Go.RowKit

theorem char_eq (b p z : Int) (h : charZ b p = z) (w : World) : Calls Try.prog 10 #[.agg #[.int .i64 b, .int .i64 p]] w fun e w' => e = .returned (.int .i64 z) ∧ Below w.heap.size w w' := h ▸ char_any b p w
theorem t15_eq (b p z : Int) (h : t15Z b p = z) (w : World) : Calls Try.prog 12 #[.agg #[.int .i64 b, .int .i64 p]] w fun e w' => e = .returned (.int .i64 z) ∧ Below w.heap.size w w' := h ▸ t15_any b p w
theorem t35_eq (b p z : Int) (h : t35Z b p = z) (w : World) : Calls Try.prog 14 #[.agg #[.int .i64 b, .int .i64 p]] w fun e w' => e = .returned (.int .i64 z) ∧ Below w.heap.size w w' := h ▸ t35_any b p w
theorem frame_eq (b p n z : Int) (h : frameZ b p n = z) (w : World) : Calls Try.prog 16 #[.agg #[.int .i64 b, .int .i64 p], .int .i64 n] w fun e w' => e = .returned (.int .i64 z) ∧ Below w.heap.size w w' := h ▸ frame_any b p n w
theorem rchar_eq (b p z : Int) (h : charZ b p = z) (w : World) : Calls Try.prog 11 #[.agg #[.int .i64 b, .int .i64 p]] w fun e w' => e = .returned (.int .i64 z) ∧ Below w.heap.size w w' := h ▸ rchar_any b p w
theorem rt15_eq (b p z : Int) (h : t15Z b p = z) (w : World) : Calls Try.prog 13 #[.agg #[.int .i64 b, .int .i64 p]] w fun e w' => e = .returned (.int .i64 z) ∧ Below w.heap.size w w' := h ▸ rt15_any b p w
theorem rt35_eq (b p z : Int) (h : t35Z b p = z) (w : World) : Calls Try.prog 15 #[.agg #[.int .i64 b, .int .i64 p]] w fun e w' => e = .returned (.int .i64 z) ∧ Below w.heap.size w w' := h ▸ rt35_any b p w
theorem rframe_eq (b p n z : Int) (h : frameZ b p n = z) (w : World) : Calls Try.prog 17 #[.agg #[.int .i64 b, .int .i64 p], .int .i64 n] w fun e w' => e = .returned (.int .i64 z) ∧ Below w.heap.size w w' := h ▸ rframe_any b p n w

set_option maxHeartbeats 1000000 in
theorem awake_any (w : World) : Calls Try.prog 9 #[] w fun e w' => e = .returned (.bool true) ∧ Below w.heap.size w w' := by
  go_enter Try.func9, Try.ntmps9
  go_wp2_with fail
  refine (char_eq 9600 1 1146 (by decide) _).mono ?_
  rintro e w1 ⟨rfl, hb1⟩
  obtain ⟨q1, z1, l1⟩ := box_new hb1
  have hbw := ext_alloc' (Below.refl _ w) (by simpa using hb1)
  clear hb1
  go_wp2_with fail
  refine (t15_eq 9600 1 1719 (by decide) _).mono ?_
  rintro e w2 ⟨rfl, hb2⟩
  obtain ⟨q2, z2, l2⟩ := box_keep q1 z1 l1 hb2
  go_wp2_with fail
  refine (t35_eq 9600 1 4011 (by decide) _).mono ?_
  rintro e w3 ⟨rfl, hb3⟩
  obtain ⟨q3, z3, l3⟩ := box_keep q2 z2 l2 hb3
  go_wp2_with fail
  refine (frame_eq 9600 1 8 9168 (by decide) _).mono ?_
  rintro e w4 ⟨rfl, hb4⟩
  go_wp2
  go_ret
  exact ⟨rfl, ext_trans (ext_trans (ext_trans hbw hb2) hb3) hb4⟩

set_option maxRecDepth 100000 in
set_option maxHeartbeats 4000000 in
theorem tells_raw (b p k n : Int) (w : World) : Calls Try.prog 3 #[.agg #[.int .i64 b, .int .i64 p], .int .i64 k, .int .i64 n, .bool true] w fun e w' => e = .returned (.bool true) ∧ Below w.heap.size w w' := by
  obtain ⟨c, hc⟩ : ∃ c, charZ b p = c := ⟨_, rfl⟩
  obtain ⟨t, ht⟩ : ∃ t, t15Z b p = t := ⟨_, rfl⟩
  obtain ⟨u, hu⟩ : ∃ u, t35Z b p = u := ⟨_, rfl⟩
  obtain ⟨f, hf⟩ : ∃ f, frameZ b p n = f := ⟨_, rfl⟩
  have HC := Lib.hid hc; have HT := Lib.hid ht; have HU := Lib.hid hu; have HF := Lib.hid hf
  clear hc ht hu hf
  go_enter Try.func3, Try.ntmps3
  go_wp2
  obtain ⟨W0, hW0⟩ : ∃ W0, w.alloc (.cells #[.int .i64 b, .int .i64 p] 23) = W0 := ⟨_, rfl⟩
  have q0 : ∀ i, W0.cell? ⟨w.heap.size, i, none⟩ = (#[.int .i64 b, .int .i64 p] : Array Value)[i]? := fun i => by rw [← hW0]; exact cell_of_row _ w.heap.size i _ _ (0, 0) (heap_alloc_new w _)
  have z0 : ∀ i, W0.frozen? ⟨w.heap.size, i, none⟩ = false := fun i => by rw [← hW0]; exact World.frozen?_alloc_at _ _ _ _ rfl
  have l0 : w.heap.size < W0.heap.size := by rw [← hW0]; simp
  have B0 : Below w.heap.size w W0 := by rw [← hW0]; exact (Below.refl _ _).alloc (Nat.le_refl _) _
  rw [hW0]
  clear hW0
  refine rg_start (by kernel_rfl) ?_
  refine rg_c 0 (by kernel_rfl) rfl (by rfl) (fun K hK => ?_)
  go_simp
  refine (awake_any _).mono ?_
  rintro e w1 ⟨rfl, hb1⟩
  obtain ⟨q1, z1, l1⟩ := box_keep (w1 := W0.drew) q0 z0 l0 hb1
  have B1 : Below w.heap.size w w1 := ext_trans (b := W0.drew) B0.drew hb1
  refine hK _ _ hb1 ?_
  clear hb1 q0 z0 l0 B0
  clear hK K
  try simp only [Act.put, List.setIfInBounds_toArray, List.set_cons_zero, List.set_cons_succ]
  refine rg_t (v := ?_) (some 17) 1 (by kernel_rfl) rfl rfl (.inl ⟨by rfl, fun w' hw q => ?_⟩) ?_
  rotate_left
  · go_simp <;> with_reducible rfl
  try simp only [Act.put, List.setIfInBounds_toArray, List.set_cons_zero, List.set_cons_succ]
  refine rg_t (v := ?_) (some 18) 2 (by kernel_rfl) rfl rfl (.inl ⟨by rfl, fun w' hw q => ?_⟩) ?_
  rotate_left
  · go_simp <;> with_reducible rfl
  try simp only [Act.put, List.setIfInBounds_toArray, List.set_cons_zero, List.set_cons_succ]
  refine rg_t (v := ?_) (some 20) 4 (by kernel_rfl) rfl rfl (.inl ⟨by rfl, fun w' hw q => ?_⟩) ?_
  rotate_left
  · go_simp <;> with_reducible rfl
  try simp only [Act.put, List.setIfInBounds_toArray, List.set_cons_zero, List.set_cons_succ]
  refine rg_c 3 (by kernel_rfl) rfl (by rfl) (fun K hK => ?_)
  go_simp
  refine (char_eq b p c HC.out _).mono ?_
  rintro e w2 ⟨rfl, hb2⟩
  obtain ⟨q2, z2, l2⟩ := box_keep q1 z1 l1 hb2
  have B2 := ext_trans B1 hb2
  refine hK _ _ hb2 ?_
  clear hb2 q1 z1 l1 B1
  clear hK K
  try simp only [Act.put, List.setIfInBounds_toArray, List.set_cons_zero, List.set_cons_succ]
  refine rg_c 5 (by kernel_rfl) rfl (by rfl) (fun K hK => ?_)
  go_simp
  refine (rchar_eq b p c HC.out _).mono ?_
  rintro e w3 ⟨rfl, hb3⟩
  obtain ⟨q3, z3, l3⟩ := box_keep q2 z2 l2 hb3
  have B3 := ext_trans B2 hb3
  refine hK _ _ hb3 ?_
  clear hb3 q2 z2 l2 B2
  clear hK K
  try simp only [Act.put, List.setIfInBounds_toArray, List.set_cons_zero, List.set_cons_succ]
  refine rg_t (v := ?_) (some 22) 6 (by kernel_rfl) rfl rfl (.inl ⟨by rfl, fun w' hw q => ?_⟩) ?_
  rotate_left
  · go_simp <;> with_reducible rfl
  try simp only [Act.put, List.setIfInBounds_toArray, List.set_cons_zero, List.set_cons_succ]
  refine rg_t (v := ?_) (some 23) 7 (by kernel_rfl) rfl rfl (.inl ⟨by rfl, fun w' hw q => ?_⟩) ?_
  rotate_left
  · go_simp <;> with_reducible rfl
  try simp only [Act.put, List.setIfInBounds_toArray, List.set_cons_zero, List.set_cons_succ]
  refine rg_t (v := ?_) (some 24) 8 (by kernel_rfl) rfl rfl (.inl ⟨by rfl, fun w' hw q => ?_⟩) ?_
  rotate_left
  · go_simp <;> with_reducible rfl
  try simp only [Act.put, List.setIfInBounds_toArray, List.set_cons_zero, List.set_cons_succ]
  refine rg_t (v := ?_) (some 25) 9 (by kernel_rfl) rfl rfl (.inl ⟨by rfl, fun w' hw q => ?_⟩) ?_
  rotate_left
  · go_simp <;> with_reducible rfl
  try simp only [Act.put, List.setIfInBounds_toArray, List.set_cons_zero, List.set_cons_succ]
  refine rg_t (v := ?_) (some 27) 11 (by kernel_rfl) rfl rfl (.inl ⟨by rfl, fun w' hw q => ?_⟩) ?_
  rotate_left
  · go_simp <;> with_reducible rfl
  try simp only [Act.put, List.setIfInBounds_toArray, List.set_cons_zero, List.set_cons_succ]
  refine rg_c 10 (by kernel_rfl) rfl (by rfl) (fun K hK => ?_)
  go_simp
  refine (t15_eq b p t HT.out _).mono ?_
  rintro e w4 ⟨rfl, hb4⟩
  obtain ⟨q4, z4, l4⟩ := box_keep q3 z3 l3 hb4
  have B4 := ext_trans B3 hb4
  refine hK _ _ hb4 ?_
  clear hb4 q3 z3 l3 B3
  clear hK K
  try simp only [Act.put, List.setIfInBounds_toArray, List.set_cons_zero, List.set_cons_succ]
  refine rg_c 12 (by kernel_rfl) rfl (by rfl) (fun K hK => ?_)
  go_simp
  refine (rt15_eq b p t HT.out _).mono ?_
  rintro e w5 ⟨rfl, hb5⟩
  obtain ⟨q5, z5, l5⟩ := box_keep q4 z4 l4 hb5
  have B5 := ext_trans B4 hb5
  refine hK _ _ hb5 ?_
  clear hb5 q4 z4 l4 B4
  clear hK K
  try simp only [Act.put, List.setIfInBounds_toArray, List.set_cons_zero, List.set_cons_succ]
  refine rg_t (v := ?_) (some 29) 13 (by kernel_rfl) rfl rfl (.inl ⟨by rfl, fun w' hw q => ?_⟩) ?_
  rotate_left
  · go_simp <;> with_reducible rfl
  try simp only [Act.put, List.setIfInBounds_toArray, List.set_cons_zero, List.set_cons_succ]
  refine rg_t (v := ?_) (some 30) 14 (by kernel_rfl) rfl rfl (.inl ⟨by rfl, fun w' hw q => ?_⟩) ?_
  rotate_left
  · go_simp <;> with_reducible rfl
  try simp only [Act.put, List.setIfInBounds_toArray, List.set_cons_zero, List.set_cons_succ]
  refine rg_t (v := ?_) (some 31) 15 (by kernel_rfl) rfl rfl (.inl ⟨by rfl, fun w' hw q => ?_⟩) ?_
  rotate_left
  · go_simp <;> with_reducible rfl
  try simp only [Act.put, List.setIfInBounds_toArray, List.set_cons_zero, List.set_cons_succ]
  refine rg_t (v := ?_) (some 32) 16 (by kernel_rfl) rfl rfl (.inl ⟨by rfl, fun w' hw q => ?_⟩) ?_
  rotate_left
  · go_simp <;> with_reducible rfl
  try simp only [Act.put, List.setIfInBounds_toArray, List.set_cons_zero, List.set_cons_succ]
  refine rg_t (v := ?_) (some 34) 18 (by kernel_rfl) rfl rfl (.inl ⟨by rfl, fun w' hw q => ?_⟩) ?_
  rotate_left
  · go_simp <;> with_reducible rfl
  try simp only [Act.put, List.setIfInBounds_toArray, List.set_cons_zero, List.set_cons_succ]
  refine rg_c 17 (by kernel_rfl) rfl (by rfl) (fun K hK => ?_)
  go_simp
  refine (t35_eq b p u HU.out _).mono ?_
  rintro e w6 ⟨rfl, hb6⟩
  obtain ⟨q6, z6, l6⟩ := box_keep q5 z5 l5 hb6
  have B6 := ext_trans B5 hb6
  refine hK _ _ hb6 ?_
  clear hb6 q5 z5 l5 B5
  clear hK K
  try simp only [Act.put, List.setIfInBounds_toArray, List.set_cons_zero, List.set_cons_succ]
  refine rg_c 19 (by kernel_rfl) rfl (by rfl) (fun K hK => ?_)
  go_simp
  refine (rt35_eq b p u HU.out _).mono ?_
  rintro e w7 ⟨rfl, hb7⟩
  obtain ⟨q7, z7, l7⟩ := box_keep q6 z6 l6 hb7
  have B7 := ext_trans B6 hb7
  refine hK _ _ hb7 ?_
  clear hb7 q6 z6 l6 B6
  clear hK K
  try simp only [Act.put, List.setIfInBounds_toArray, List.set_cons_zero, List.set_cons_succ]
  refine rg_t (v := ?_) (some 36) 20 (by kernel_rfl) rfl rfl (.inl ⟨by rfl, fun w' hw q => ?_⟩) ?_
  rotate_left
  · go_simp <;> with_reducible rfl
  try simp only [Act.put, List.setIfInBounds_toArray, List.set_cons_zero, List.set_cons_succ]
  refine rg_t (v := ?_) (some 37) 21 (by kernel_rfl) rfl rfl (.inl ⟨by rfl, fun w' hw q => ?_⟩) ?_
  rotate_left
  · go_simp <;> with_reducible rfl
  try simp only [Act.put, List.setIfInBounds_toArray, List.set_cons_zero, List.set_cons_succ]
  refine rg_t (v := ?_) (some 38) 22 (by kernel_rfl) rfl rfl (.inl ⟨by rfl, fun w' hw q => ?_⟩) ?_
  rotate_left
  · go_simp <;> with_reducible rfl
  try simp only [Act.put, List.setIfInBounds_toArray, List.set_cons_zero, List.set_cons_succ]
  refine rg_t (v := ?_) (some 39) 23 (by kernel_rfl) rfl rfl (.inl ⟨by rfl, fun w' hw q => ?_⟩) ?_
  rotate_left
  · go_simp <;> with_reducible rfl
  try simp only [Act.put, List.setIfInBounds_toArray, List.set_cons_zero, List.set_cons_succ]
  refine rg_t (v := ?_) (some 40) 24 (by kernel_rfl) rfl rfl (.inl ⟨by rfl, fun w' hw q => ?_⟩) ?_
  rotate_left
  · go_simp <;> with_reducible rfl
  try simp only [Act.put, List.setIfInBounds_toArray, List.set_cons_zero, List.set_cons_succ]
  refine rg_t (v := ?_) (some 42) 26 (by kernel_rfl) rfl rfl (.inl ⟨by rfl, fun w' hw q => ?_⟩) ?_
  rotate_left
  · go_simp <;> with_reducible rfl
  try simp only [Act.put, List.setIfInBounds_toArray, List.set_cons_zero, List.set_cons_succ]
  refine rg_t (v := ?_) (some 43) 27 (by kernel_rfl) rfl rfl (.inl ⟨by rfl, fun w' hw q => ?_⟩) ?_
  rotate_left
  · go_simp <;> with_reducible rfl
  try simp only [Act.put, List.setIfInBounds_toArray, List.set_cons_zero, List.set_cons_succ]
  refine rg_c 25 (by kernel_rfl) rfl (by rfl) (fun K hK => ?_)
  go_simp
  refine (frame_eq b p n f HF.out _).mono ?_
  rintro e w8 ⟨rfl, hb8⟩
  obtain ⟨q8, z8, l8⟩ := box_keep q7 z7 l7 hb8
  have B8 := ext_trans B7 hb8
  refine hK _ _ hb8 ?_
  clear hb8 q7 z7 l7 B7
  clear hK K
  try simp only [Act.put, List.setIfInBounds_toArray, List.set_cons_zero, List.set_cons_succ]
  refine rg_c 28 (by kernel_rfl) rfl (by rfl) (fun K hK => ?_)
  go_simp
  refine (rframe_eq b p n f HF.out _).mono ?_
  rintro e w9 ⟨rfl, hb9⟩
  have B9 := ext_trans B8 hb9
  refine hK _ _ hb9 ?_
  clear hb9 q8 z8 l8 B8
  clear hK K
  try simp only [Act.put, List.setIfInBounds_toArray, List.set_cons_zero, List.set_cons_succ]
  refine rg_t (v := ?_) (some 45) 29 (by kernel_rfl) rfl rfl (.inl ⟨by rfl, fun w' hw q => ?_⟩) ?_
  rotate_left
  · go_simp <;> with_reducible rfl
  try simp only [Act.put, List.setIfInBounds_toArray, List.set_cons_zero, List.set_cons_succ]
  refine rg_t (v := ?_) (some 46) 30 (by kernel_rfl) rfl rfl (.inl ⟨by rfl, fun w' hw q => ?_⟩) ?_
  rotate_left
  · go_simp <;> with_reducible rfl
  try simp only [Act.put, List.setIfInBounds_toArray, List.set_cons_zero, List.set_cons_succ]
  refine rg_t (v := ?_) (some 8) 31 (by kernel_rfl) rfl rfl (.inl ⟨by rfl, fun w' hw q => ?_⟩) ?_
  rotate_left
  · go_simp <;> with_reducible rfl
  try simp only [Act.put, List.setIfInBounds_toArray, List.set_cons_zero, List.set_cons_succ]
  refine rg_d (by kernel_rfl) ?_
  go_wp2
  go_ret
  exact ⟨rfl, B9⟩

theorem all_in (k : Int) : ∃ j : Nat, j < 24 ∧ k % 24 = (j : Int) := ⟨(k % 24).toNat, by omega, by omega⟩

set_option maxRecDepth 100000 in
set_option maxHeartbeats 4000000 in
theorem tells_all (b0 p0 k n : Int) (w : World) : Calls Try.prog 3 #[.agg #[.int .i64 b0, .int .i64 p0], .int .i64 k, .int .i64 n, .bool false] w fun e w' => e = .returned (.bool true) ∧ Below w.heap.size w w' := by
  obtain ⟨j, hj, hm⟩ := all_in k
  have hM := fun w => mod_any k 24 (by omega) (by omega) w
  rw [hm] at hM
  have HM := Lib.hid hM; clear hM hm
  have hl : j < allL.length := by rw [all_length]; exact hj
  obtain ⟨e0, e1⟩ := st_get0 allL j hl
  obtain ⟨b, hb⟩ : ∃ b, (allL[j]).1 = b := ⟨_, rfl⟩
  obtain ⟨p, hp⟩ : ∃ p, (allL[j]).2 = p := ⟨_, rfl⟩
  rw [hb] at e0
  rw [hp] at e1
  have E0 := Lib.hid e0; have E1 := Lib.hid e1
  clear hb hp e0 e1
  obtain ⟨c, hc⟩ : ∃ c, charZ b p = c := ⟨_, rfl⟩
  obtain ⟨t, ht⟩ : ∃ t, t15Z b p = t := ⟨_, rfl⟩
  obtain ⟨u, hu⟩ : ∃ u, t35Z b p = u := ⟨_, rfl⟩
  obtain ⟨f, hf⟩ : ∃ f, frameZ b p n = f := ⟨_, rfl⟩
  have HC := Lib.hid hc; have HT := Lib.hid ht; have HU := Lib.hid hu; have HF := Lib.hid hf
  clear hc ht hu hf
  have hj1 : (j : Int) < 24 := by omega
  go_enter Try.func3, Try.ntmps3
  go_wp2_with fail
  refine (all_any _).mono ?_
  rintro e w1 ⟨A, c0, rfl, hown, hb1⟩
  obtain ⟨q1, z1, l1⟩ := box_new hb1
  have B1 := ext_alloc' (Below.refl _ w) (by simpa using hb1)
  obtain ⟨g, off, rfl, _, hc⟩ := (Rd.of_own hown).2 (by omega)
  have c1 := hc _ _ E0.out
  have c2 := hc _ _ E1.out
  rw [← Nat.add_assoc] at c2
  have x0 : w1.cell? ⟨w.heap.size, 0, none⟩ = some (.int .i64 b0) := q1 0
  have x1 : w1.cell? ⟨w.heap.size, 1, none⟩ = some (.int .i64 p0) := q1 1
  clear hb1 hown hc
  go_wp2_with fail
  refine (HM.out _).mono ?_
  rintro e w' ⟨rfl, rfl⟩
  go_wp2
  obtain ⟨W0, hW0⟩ : ∃ W0, (w1.setCell ⟨w.heap.size, 0, none⟩ (.int .i64 b)).setCell ⟨w.heap.size, 1, none⟩ (.int .i64 p) = W0 := ⟨_, rfl⟩
  obtain ⟨qa, za, la⟩ := box_set (k := 0) (.int .i64 b) q1 z1 l1 (by simp)
  obtain ⟨qb, zb, lb⟩ := box_set (k := 1) (.int .i64 p) qa za la (by simp)
  have B0 : Below w.heap.size w W0 := by rw [← hW0]; exact (B1.setCell (Nat.le_refl _) _).setCell (Nat.le_refl _) _
  have q0 : ∀ i, W0.cell? ⟨w.heap.size, i, none⟩ = (#[.int .i64 b, .int .i64 p] : Array Value)[i]? := fun i => by rw [← hW0]; exact qb i
  have z0 : ∀ i, W0.frozen? ⟨w.heap.size, i, none⟩ = false := fun i => by rw [← hW0]; exact zb i
  have l0 : w.heap.size < W0.heap.size := by rw [← hW0]; exact lb
  rw [hW0]
  clear hW0 qa za la qb zb lb q1 z1 l1 B1 c1 c2 x0 x1
  refine rg_start (by kernel_rfl) ?_
  refine rg_c 0 (by kernel_rfl) rfl (by rfl) (fun K hK => ?_)
  go_simp
  refine (awake_any _).mono ?_
  rintro e w1 ⟨rfl, hb1⟩
  obtain ⟨q1, z1, l1⟩ := box_keep (w1 := W0.drew) q0 z0 l0 hb1
  have B1 : Below w.heap.size w w1 := ext_trans (b := W0.drew) B0.drew hb1
  refine hK _ _ hb1 ?_
  clear hb1 q0 z0 l0 B0
  clear hK K
  try simp only [Act.put, List.setIfInBounds_toArray, List.set_cons_zero, List.set_cons_succ]
  refine rg_t (v := ?_) (some 17) 1 (by kernel_rfl) rfl rfl (.inl ⟨by rfl, fun w' hw q => ?_⟩) ?_
  rotate_left
  · go_simp <;> with_reducible rfl
  try simp only [Act.put, List.setIfInBounds_toArray, List.set_cons_zero, List.set_cons_succ]
  refine rg_t (v := ?_) (some 18) 2 (by kernel_rfl) rfl rfl (.inl ⟨by rfl, fun w' hw q => ?_⟩) ?_
  rotate_left
  · go_simp <;> with_reducible rfl
  try simp only [Act.put, List.setIfInBounds_toArray, List.set_cons_zero, List.set_cons_succ]
  refine rg_t (v := ?_) (some 20) 4 (by kernel_rfl) rfl rfl (.inl ⟨by rfl, fun w' hw q => ?_⟩) ?_
  rotate_left
  · go_simp <;> with_reducible rfl
  try simp only [Act.put, List.setIfInBounds_toArray, List.set_cons_zero, List.set_cons_succ]
  refine rg_c 3 (by kernel_rfl) rfl (by rfl) (fun K hK => ?_)
  go_simp
  refine (char_eq b p c HC.out _).mono ?_
  rintro e w2 ⟨rfl, hb2⟩
  obtain ⟨q2, z2, l2⟩ := box_keep q1 z1 l1 hb2
  have B2 := ext_trans B1 hb2
  refine hK _ _ hb2 ?_
  clear hb2 q1 z1 l1 B1
  clear hK K
  try simp only [Act.put, List.setIfInBounds_toArray, List.set_cons_zero, List.set_cons_succ]
  refine rg_c 5 (by kernel_rfl) rfl (by rfl) (fun K hK => ?_)
  go_simp
  refine (rchar_eq b p c HC.out _).mono ?_
  rintro e w3 ⟨rfl, hb3⟩
  obtain ⟨q3, z3, l3⟩ := box_keep q2 z2 l2 hb3
  have B3 := ext_trans B2 hb3
  refine hK _ _ hb3 ?_
  clear hb3 q2 z2 l2 B2
  clear hK K
  try simp only [Act.put, List.setIfInBounds_toArray, List.set_cons_zero, List.set_cons_succ]
  refine rg_t (v := ?_) (some 22) 6 (by kernel_rfl) rfl rfl (.inl ⟨by rfl, fun w' hw q => ?_⟩) ?_
  rotate_left
  · go_simp <;> with_reducible rfl
  try simp only [Act.put, List.setIfInBounds_toArray, List.set_cons_zero, List.set_cons_succ]
  refine rg_t (v := ?_) (some 23) 7 (by kernel_rfl) rfl rfl (.inl ⟨by rfl, fun w' hw q => ?_⟩) ?_
  rotate_left
  · go_simp <;> with_reducible rfl
  try simp only [Act.put, List.setIfInBounds_toArray, List.set_cons_zero, List.set_cons_succ]
  refine rg_t (v := ?_) (some 24) 8 (by kernel_rfl) rfl rfl (.inl ⟨by rfl, fun w' hw q => ?_⟩) ?_
  rotate_left
  · go_simp <;> with_reducible rfl
  try simp only [Act.put, List.setIfInBounds_toArray, List.set_cons_zero, List.set_cons_succ]
  refine rg_t (v := ?_) (some 25) 9 (by kernel_rfl) rfl rfl (.inl ⟨by rfl, fun w' hw q => ?_⟩) ?_
  rotate_left
  · go_simp <;> with_reducible rfl
  try simp only [Act.put, List.setIfInBounds_toArray, List.set_cons_zero, List.set_cons_succ]
  refine rg_t (v := ?_) (some 27) 11 (by kernel_rfl) rfl rfl (.inl ⟨by rfl, fun w' hw q => ?_⟩) ?_
  rotate_left
  · go_simp <;> with_reducible rfl
  try simp only [Act.put, List.setIfInBounds_toArray, List.set_cons_zero, List.set_cons_succ]
  refine rg_c 10 (by kernel_rfl) rfl (by rfl) (fun K hK => ?_)
  go_simp
  refine (t15_eq b p t HT.out _).mono ?_
  rintro e w4 ⟨rfl, hb4⟩
  obtain ⟨q4, z4, l4⟩ := box_keep q3 z3 l3 hb4
  have B4 := ext_trans B3 hb4
  refine hK _ _ hb4 ?_
  clear hb4 q3 z3 l3 B3
  clear hK K
  try simp only [Act.put, List.setIfInBounds_toArray, List.set_cons_zero, List.set_cons_succ]
  refine rg_c 12 (by kernel_rfl) rfl (by rfl) (fun K hK => ?_)
  go_simp
  refine (rt15_eq b p t HT.out _).mono ?_
  rintro e w5 ⟨rfl, hb5⟩
  obtain ⟨q5, z5, l5⟩ := box_keep q4 z4 l4 hb5
  have B5 := ext_trans B4 hb5
  refine hK _ _ hb5 ?_
  clear hb5 q4 z4 l4 B4
  clear hK K
  try simp only [Act.put, List.setIfInBounds_toArray, List.set_cons_zero, List.set_cons_succ]
  refine rg_t (v := ?_) (some 29) 13 (by kernel_rfl) rfl rfl (.inl ⟨by rfl, fun w' hw q => ?_⟩) ?_
  rotate_left
  · go_simp <;> with_reducible rfl
  try simp only [Act.put, List.setIfInBounds_toArray, List.set_cons_zero, List.set_cons_succ]
  refine rg_t (v := ?_) (some 30) 14 (by kernel_rfl) rfl rfl (.inl ⟨by rfl, fun w' hw q => ?_⟩) ?_
  rotate_left
  · go_simp <;> with_reducible rfl
  try simp only [Act.put, List.setIfInBounds_toArray, List.set_cons_zero, List.set_cons_succ]
  refine rg_t (v := ?_) (some 31) 15 (by kernel_rfl) rfl rfl (.inl ⟨by rfl, fun w' hw q => ?_⟩) ?_
  rotate_left
  · go_simp <;> with_reducible rfl
  try simp only [Act.put, List.setIfInBounds_toArray, List.set_cons_zero, List.set_cons_succ]
  refine rg_t (v := ?_) (some 32) 16 (by kernel_rfl) rfl rfl (.inl ⟨by rfl, fun w' hw q => ?_⟩) ?_
  rotate_left
  · go_simp <;> with_reducible rfl
  try simp only [Act.put, List.setIfInBounds_toArray, List.set_cons_zero, List.set_cons_succ]
  refine rg_t (v := ?_) (some 34) 18 (by kernel_rfl) rfl rfl (.inl ⟨by rfl, fun w' hw q => ?_⟩) ?_
  rotate_left
  · go_simp <;> with_reducible rfl
  try simp only [Act.put, List.setIfInBounds_toArray, List.set_cons_zero, List.set_cons_succ]
  refine rg_c 17 (by kernel_rfl) rfl (by rfl) (fun K hK => ?_)
  go_simp
  refine (t35_eq b p u HU.out _).mono ?_
  rintro e w6 ⟨rfl, hb6⟩
  obtain ⟨q6, z6, l6⟩ := box_keep q5 z5 l5 hb6
  have B6 := ext_trans B5 hb6
  refine hK _ _ hb6 ?_
  clear hb6 q5 z5 l5 B5
  clear hK K
  try simp only [Act.put, List.setIfInBounds_toArray, List.set_cons_zero, List.set_cons_succ]
  refine rg_c 19 (by kernel_rfl) rfl (by rfl) (fun K hK => ?_)
  go_simp
  refine (rt35_eq b p u HU.out _).mono ?_
  rintro e w7 ⟨rfl, hb7⟩
  obtain ⟨q7, z7, l7⟩ := box_keep q6 z6 l6 hb7
  have B7 := ext_trans B6 hb7
  refine hK _ _ hb7 ?_
  clear hb7 q6 z6 l6 B6
  clear hK K
  try simp only [Act.put, List.setIfInBounds_toArray, List.set_cons_zero, List.set_cons_succ]
  refine rg_t (v := ?_) (some 36) 20 (by kernel_rfl) rfl rfl (.inl ⟨by rfl, fun w' hw q => ?_⟩) ?_
  rotate_left
  · go_simp <;> with_reducible rfl
  try simp only [Act.put, List.setIfInBounds_toArray, List.set_cons_zero, List.set_cons_succ]
  refine rg_t (v := ?_) (some 37) 21 (by kernel_rfl) rfl rfl (.inl ⟨by rfl, fun w' hw q => ?_⟩) ?_
  rotate_left
  · go_simp <;> with_reducible rfl
  try simp only [Act.put, List.setIfInBounds_toArray, List.set_cons_zero, List.set_cons_succ]
  refine rg_t (v := ?_) (some 38) 22 (by kernel_rfl) rfl rfl (.inl ⟨by rfl, fun w' hw q => ?_⟩) ?_
  rotate_left
  · go_simp <;> with_reducible rfl
  try simp only [Act.put, List.setIfInBounds_toArray, List.set_cons_zero, List.set_cons_succ]
  refine rg_t (v := ?_) (some 39) 23 (by kernel_rfl) rfl rfl (.inl ⟨by rfl, fun w' hw q => ?_⟩) ?_
  rotate_left
  · go_simp <;> with_reducible rfl
  try simp only [Act.put, List.setIfInBounds_toArray, List.set_cons_zero, List.set_cons_succ]
  refine rg_t (v := ?_) (some 40) 24 (by kernel_rfl) rfl rfl (.inl ⟨by rfl, fun w' hw q => ?_⟩) ?_
  rotate_left
  · go_simp <;> with_reducible rfl
  try simp only [Act.put, List.setIfInBounds_toArray, List.set_cons_zero, List.set_cons_succ]
  refine rg_t (v := ?_) (some 42) 26 (by kernel_rfl) rfl rfl (.inl ⟨by rfl, fun w' hw q => ?_⟩) ?_
  rotate_left
  · go_simp <;> with_reducible rfl
  try simp only [Act.put, List.setIfInBounds_toArray, List.set_cons_zero, List.set_cons_succ]
  refine rg_t (v := ?_) (some 43) 27 (by kernel_rfl) rfl rfl (.inl ⟨by rfl, fun w' hw q => ?_⟩) ?_
  rotate_left
  · go_simp <;> with_reducible rfl
  try simp only [Act.put, List.setIfInBounds_toArray, List.set_cons_zero, List.set_cons_succ]
  refine rg_c 25 (by kernel_rfl) rfl (by rfl) (fun K hK => ?_)
  go_simp
  refine (frame_eq b p n f HF.out _).mono ?_
  rintro e w8 ⟨rfl, hb8⟩
  obtain ⟨q8, z8, l8⟩ := box_keep q7 z7 l7 hb8
  have B8 := ext_trans B7 hb8
  refine hK _ _ hb8 ?_
  clear hb8 q7 z7 l7 B7
  clear hK K
  try simp only [Act.put, List.setIfInBounds_toArray, List.set_cons_zero, List.set_cons_succ]
  refine rg_c 28 (by kernel_rfl) rfl (by rfl) (fun K hK => ?_)
  go_simp
  refine (rframe_eq b p n f HF.out _).mono ?_
  rintro e w9 ⟨rfl, hb9⟩
  have B9 := ext_trans B8 hb9
  refine hK _ _ hb9 ?_
  clear hb9 q8 z8 l8 B8
  clear hK K
  try simp only [Act.put, List.setIfInBounds_toArray, List.set_cons_zero, List.set_cons_succ]
  refine rg_t (v := ?_) (some 45) 29 (by kernel_rfl) rfl rfl (.inl ⟨by rfl, fun w' hw q => ?_⟩) ?_
  rotate_left
  · go_simp <;> with_reducible rfl
  try simp only [Act.put, List.setIfInBounds_toArray, List.set_cons_zero, List.set_cons_succ]
  refine rg_t (v := ?_) (some 46) 30 (by kernel_rfl) rfl rfl (.inl ⟨by rfl, fun w' hw q => ?_⟩) ?_
  rotate_left
  · go_simp <;> with_reducible rfl
  try simp only [Act.put, List.setIfInBounds_toArray, List.set_cons_zero, List.set_cons_succ]
  refine rg_t (v := ?_) (some 8) 31 (by kernel_rfl) rfl rfl (.inl ⟨by rfl, fun w' hw q => ?_⟩) ?_
  rotate_left
  · go_simp <;> with_reducible rfl
  try simp only [Act.put, List.setIfInBounds_toArray, List.set_cons_zero, List.set_cons_succ]
  refine rg_d (by kernel_rfl) ?_
  go_wp2
  go_ret
  exact ⟨rfl, B9⟩

theorem tellsI (b p k n : Int) (raw : Bool) (w : World) : Calls Try.prog 3 #[.agg #[.int .i64 b, .int .i64 p], .int .i64 k, .int .i64 n, .bool raw] w fun e w' => e = .returned (.bool true) ∧ Below w.heap.size w w' := by
  cases raw
  · exact tells_all b p k n w
  · exact tells_raw b p k n w

end Go.Proofs.Ytikhlmliefnccaa

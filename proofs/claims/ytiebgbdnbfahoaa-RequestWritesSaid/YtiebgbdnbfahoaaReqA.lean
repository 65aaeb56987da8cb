/- Layer 10: the example of the chapter and the law RequestValid. -/
import Derived.Test.YtiebgbdnbfahoaaReqE
import Derived.Test.YtiebgbdnbfahoaaReqD
import Derived.Test.YtiebgbdnbfahoaaReg
set_option linter.unusedVariables false
set_option linter.unusedSimpArgs false
namespace Go.Proofs.Ytiebgbdnbfahoaa
open Go.RowKit

set_option maxRecDepth 100000 in
set_option maxHeartbeats 1000000 in
theorem awake_any (w : World) : Calls Try.prog 8 #[] w fun e w' => e = .returned (.bool true) ∧ Below w.heap.size w w' := by
  have he : ∀ w, Calls Try.prog 14 #[qv 3 300 2 0 0] w fun e w' => ∃ A, e = .returned (.tuple #[.slice A 5 5, .int .i64 0]) ∧ Rd w' w'.heap.size 1 A 5 (by8 [3, 1, 44, 0, 2]) ∧ Below w.heap.size w w' := fun w => by
    refine (enc_yes 3 300 2 0 0 (by decide +kernel) w).mono ?_
    rintro e w' ⟨A, m, rfl, hm, hR, hb⟩
    obtain rfl : m = 5 := hm
    exact ⟨A, rfl, hR, hb⟩
  have hl : ∀ w, Calls Try.prog 11 #[.int .i64 1] w fun e w' => e = .returned (.int .i64 2000) ∧ w = w' := fun w => lim_any 1 w
  have HE := Lib.hid he; have HL := Lib.hid hl; clear he hl
  go_enter Try.func8, Try.ntmps8
  go_wp2_with fail
  refine (HE.out _).mono ?_
  rintro e w1 ⟨A1, rfl, hR1, hb1⟩
  go_wp2_with fail
  refine (dec_other 6 w1.heap.size 0 5 5 _ (by simp) (by omega) (by omega) (by omega) (by omega) (by omega) (by omega) (by rw [cell_of_row _ w1.heap.size 0 _ _ (0, 0) (heap_alloc_new w1 _)]; rfl)).mono ?_
  rintro e w2 ⟨rfl, hb2⟩
  have hb3 : Below w.heap.size w w2 := ext_alloc' hb1 (by simpa using hb2)
  have hR2 : Rd w2 w1.heap.size 1 A1 5 (by8 [3, 1, 44, 0, 2]) := (hR1.alloc' _ (Nat.le_refl _)).below hb2 (by simp)
  have hs : w1.heap.size ≤ w2.heap.size := by have := hb2.size; simp at this; omega
  have hc2 : ∀ o, (convert 29 9 (.slice A1 5 5)).run Try.prog (w2.alloc o) = .ok (.string (strOfNums [3, 1, 44, 0, 2])) (w2.alloc o) := fun o => (hR2.alloc' o hs).str
  have hc3 : ∀ (W : World) (N : Nat), W.heap.size = N → (convert 29 9 (.slice (some ⟨N, 0, none⟩) 5 5)).run Try.prog (W.alloc (.cells #[.int .u8 3, .int .u8 1, .int .u8 44, .int .u8 0, .int .u8 2] 5)) = .ok (.string (strOfNums [3, 1, 44, 0, 2])) (W.alloc (.cells #[.int .u8 3, .int .u8 1, .int .u8 44, .int .u8 0, .int .u8 2] 5)) := fun W N h => h ▸
    Rd.str (B := W.heap.size + 1) (xs := [3, 1, 44, 0, 2]) (Rd.lit rfl (Nat.lt_succ_self _))
  have hc4 := hc3 (w2.alloc (.cells #[.int .i64 0, .int .i64 0, .int .i64 0, .int .i64 0, .int .i64 0] 23)) (w2.heap.size + 1) (by simp)
  have hc5 := hc2 (.cells #[.int .i64 0, .int .i64 0, .int .i64 0, .int .i64 0, .int .i64 0] 23)
  clear hc2 hc3 hR1 hR2 hb1 hb2
  go_wp2_with fail
  refine (HL.out _).mono ?_
  rintro e w' ⟨rfl, rfl⟩
  go_wp2
  go_ret
  exact ⟨rfl, ext_alloc' (ext_alloc' hb3 (Below.refl _ _)) (Below.refl _ _)⟩

set_option maxRecDepth 100000 in
theorem lawValid_any (f a n c o fn : Int) (w : World) : Calls Try.prog 3 #[qv f a n c o, .int .i64 fn] w fun e w' => e = .returned (.bool true) ∧ Below w.heap.size w w' := by
  obtain ⟨b, hb⟩ : ∃ b, vq f a n c o = b := ⟨_, rfl⟩
  have hv : ∀ w, Calls Try.prog 9 #[qv f a n c o] w fun e w' => e = .returned (.bool b) ∧ Below w.heap.size w w' := fun w => hb ▸ valid_any f a n c o w
  have hr : ∀ w, Calls Try.prog 10 #[qv f a n c o] w fun e w' => e = .returned (.bool b) ∧ Below w.heap.size w w' := fun w => hb ▸ rvalid_any f a n c o w
  have HV := Lib.hid hv; have HR := Lib.hid hr; clear hv hr hb
  go_enter Try.func3, Try.ntmps3
  go_wp2
  obtain ⟨W0, hW0⟩ : ∃ W0, w.alloc (.cells #[.int .i64 f, .int .i64 a, .int .i64 n, .int .i64 c, .int .i64 o] 23) = W0 := ⟨_, rfl⟩
  have q0 : ∀ i, W0.cell? ⟨w.heap.size, i, none⟩ = (#[.int .i64 f, .int .i64 a, .int .i64 n, .int .i64 c, .int .i64 o] : Array Value)[i]? := fun i => by rw [← hW0]; exact cell_of_row _ w.heap.size i _ _ (0, 0) (heap_alloc_new w _)
  have z0 : ∀ i, W0.frozen? ⟨w.heap.size, i, none⟩ = false := fun i => by rw [← hW0]; exact World.frozen?_alloc_at _ _ _ _ rfl
  have l0 : w.heap.size < W0.heap.size := by rw [← hW0]; simp
  have B0 : Below w.heap.size w W0 := by rw [← hW0]; exact (Below.refl _ _).alloc (Nat.le_refl _) _
  rw [hW0]
  clear hW0
  refine rg_start (by kernel_rfl) ?_
  refine rg_c 0 (by kernel_rfl) rfl (by rfl) (fun K hK => ?_)
  go_simp
  refine (awake_any _).mono ?_
  rintro e w1 ⟨rfl, hb1⟩
  obtain ⟨q1, z1, l1⟩ := box_keep (w1 := W0.drew) q0 z0 l0 hb1
  have B1 : Below w.heap.size w w1 := ext_trans (b := W0.drew) B0.drew hb1
  refine hK _ _ hb1 ?_
  clear hb1 q0 z0 l0 B0
  clear hK K
  try simp only [Act.put, List.setIfInBounds_toArray, List.set_cons_zero, List.set_cons_succ]
  refine rg_t (v := ?_) (some 6) 1 (by kernel_rfl) rfl rfl (.inl ⟨by rfl, fun w' hw q => ?_⟩) ?_
  rotate_left
  · go_simp <;> with_reducible rfl
  try simp only [Act.put, List.setIfInBounds_toArray, List.set_cons_zero, List.set_cons_succ]
  refine rg_t (v := ?_) (some 7) 2 (by kernel_rfl) rfl rfl (.inl ⟨by rfl, fun w' hw q => ?_⟩) ?_
  rotate_left
  · go_simp <;> with_reducible rfl
  try simp only [Act.put, List.setIfInBounds_toArray, List.set_cons_zero, List.set_cons_succ]
  refine rg_t (v := ?_) (some 9) 4 (by kernel_rfl) rfl rfl (.inl ⟨by rfl, fun w' hw q => ?_⟩) ?_
  rotate_left
  · go_simp <;> with_reducible rfl
  try simp only [Act.put, List.setIfInBounds_toArray, List.set_cons_zero, List.set_cons_succ]
  refine rg_c 3 (by kernel_rfl) rfl (by rfl) (fun K hK => ?_)
  go_simp
  refine (HV.out _).mono ?_
  rintro e w2 ⟨rfl, hb2⟩
  obtain ⟨q2, z2, l2⟩ := box_keep q1 z1 l1 hb2
  have B2 := ext_trans B1 hb2
  refine hK _ _ hb2 ?_
  clear hb2 q1 z1 l1 B1
  clear hK K
  try simp only [Act.put, List.setIfInBounds_toArray, List.set_cons_zero, List.set_cons_succ]
  refine rg_c 5 (by kernel_rfl) rfl (by rfl) (fun K hK => ?_)
  go_simp
  refine (HR.out _).mono ?_
  rintro e w3 ⟨rfl, hb3⟩
  obtain ⟨q3, z3, l3⟩ := box_keep q2 z2 l2 hb3
  have B3 := ext_trans B2 hb3
  refine hK _ _ hb3 ?_
  clear hb3 q2 z2 l2 B2
  clear hK K
  try simp only [Act.put, List.setIfInBounds_toArray, List.set_cons_zero, List.set_cons_succ]
  refine rg_t (v := ?_) (some 11) 6 (by kernel_rfl) rfl rfl (.inl ⟨by rfl, fun w' hw q => ?_⟩) ?_
  rotate_left
  · go_simp <;> with_reducible rfl
  try simp only [Act.put, List.setIfInBounds_toArray, List.set_cons_zero, List.set_cons_succ]
  refine rg_t (v := ?_) (some 12) 7 (by kernel_rfl) rfl rfl (.inl ⟨by rfl, fun w' hw q => ?_⟩) ?_
  rotate_left
  · go_simp <;> with_reducible rfl
  try simp only [Act.put, List.setIfInBounds_toArray, List.set_cons_zero, List.set_cons_succ]
  refine rg_t (v := ?_) (some 13) 8 (by kernel_rfl) rfl rfl (.inl ⟨by rfl, fun w' hw q => ?_⟩) ?_
  rotate_left
  · go_simp <;> with_reducible rfl
  try simp only [Act.put, List.setIfInBounds_toArray, List.set_cons_zero, List.set_cons_succ]
  refine rg_t (v := ?_) (some 14) 9 (by kernel_rfl) rfl rfl (.inl ⟨by rfl, fun w' hw q => ?_⟩) ?_
  rotate_left
  · go_simp <;> with_reducible rfl
  try simp only [Act.put, List.setIfInBounds_toArray, List.set_cons_zero, List.set_cons_succ]
  refine rg_t (v := ?_) (some 16) 11 (by kernel_rfl) rfl rfl (.inl ⟨by rfl, fun w' hw q => ?_⟩) ?_
  rotate_left
  · go_simp <;> with_reducible rfl
  try simp only [Act.put, List.setIfInBounds_toArray, List.set_cons_zero, List.set_cons_succ]
  refine rg_c 10 (by kernel_rfl) rfl (by rfl) (fun K hK => ?_)
  go_simp
  refine (lim_any fn _).mono ?_
  rintro e w4 ⟨rfl, rfl⟩
  refine hK _ _ (Below.refl _ _) ?_
  clear hK K
  try simp only [Act.put, List.setIfInBounds_toArray, List.set_cons_zero, List.set_cons_succ]
  refine rg_c 12 (by kernel_rfl) rfl (by rfl) (fun K hK => ?_)
  go_simp
  refine (rlim_any fn _).mono ?_
  rintro e w5 ⟨rfl, rfl⟩
  refine hK _ _ (Below.refl _ _) ?_
  clear hK K
  try simp only [Act.put, List.setIfInBounds_toArray, List.set_cons_zero, List.set_cons_succ]
  refine rg_t (v := ?_) (some 18) 13 (by kernel_rfl) rfl rfl (.inl ⟨by rfl, fun w' hw q => ?_⟩) ?_
  rotate_left
  · go_simp <;> with_reducible rfl
  try simp only [Act.put, List.setIfInBounds_toArray, List.set_cons_zero, List.set_cons_succ]
  refine rg_t (v := ?_) (some 19) 14 (by kernel_rfl) rfl rfl (.inl ⟨by rfl, fun w' hw q => ?_⟩) ?_
  rotate_left
  · go_simp <;> with_reducible rfl
  try simp only [Act.put, List.setIfInBounds_toArray, List.set_cons_zero, List.set_cons_succ]
  refine rg_t (v := ?_) (some 4) 15 (by kernel_rfl) rfl rfl (.inl ⟨by rfl, fun w' hw q => ?_⟩) ?_
  rotate_left
  · go_simp <;> with_reducible rfl
  try simp only [Act.put, List.setIfInBounds_toArray, List.set_cons_zero, List.set_cons_succ]
  refine rg_d (by kernel_rfl) ?_
  go_wp2
  go_ret
  exact ⟨by simp, B3⟩
end Go.Proofs.Ytiebgbdnbfahoaa

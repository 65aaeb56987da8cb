/- Layer 6: the law TimingCovers. -/
import Derived.Test.YtikhlmliefnccaaIni
import Derived.Test.YtikhlmliefnccaaOpenS
set_option linter.unusedVariables false
set_option linter.unusedSimpArgs false
namespace Go.Proofs.Ytikhlmliefnccaa
open Go.RowKit

theorem validAll (j : Nat) (h : j < allL.length) : validB (allL[j]).1 (allL[j]).2 = true := by
  rw [valid_mem]; exact decide_eq_true (List.getElem_mem h)
theorem mod_eq (x n r : Int) (hn : 1 ≤ n) (hn2 : n ≤ 1000000000) (h : x % n = r) (w : World) : Calls Try.prog 8 #[.int .i64 x, .int .i64 n] w fun e w' => e = .returned (.int .i64 r) ∧ w = w' := by
  subst h; exact mod_any x n hn hn2 w

set_option maxRecDepth 100000 in
set_option maxHeartbeats 4000000 in
theorem lawCovers_any (k t0 d0 n0 : Int) (w : World) :
    Calls Try.prog 6 #[.int .i64 k, .int .i64 t0, .int .i64 d0, .int .i64 n0] w fun e w' => e = .returned (.bool true) ∧ Below w.heap.size w w' := by
  obtain ⟨j, hj, hm⟩ := all_in k
  have hM := fun w => mod_any k 24 (by omega) (by omega) w
  rw [hm] at hM
  have HM := Lib.hid hM; clear hM hm
  have hlj : j < allL.length := by rw [all_length]; exact hj
  have hval := validAll j hlj
  obtain ⟨e0, e1⟩ := st_get0 allL j hlj
  obtain ⟨b, hb⟩ : ∃ b, (allL[j]).1 = b := ⟨_, rfl⟩
  obtain ⟨p, hp⟩ : ∃ p, (allL[j]).2 = p := ⟨_, rfl⟩
  rw [hb] at e0 hval
  rw [hp] at e1 hval
  have E0 := Lib.hid e0; have E1 := Lib.hid e1
  clear hb hp e0 e1
  obtain ⟨t, ht⟩ : ∃ t, t0 % 5000001 = t := ⟨_, rfl⟩
  obtain ⟨d, hd⟩ : ∃ d, d0 % 5000001 = d := ⟨_, rfl⟩
  obtain ⟨n, hn⟩ : ∃ n, n0 % 257 = n := ⟨_, rfl⟩
  have ht1 : 0 ≤ t ∧ t ≤ 5000000 := by omega
  have hd1 : 0 ≤ d ∧ d ≤ 5000000 := by omega
  have hn1 : 0 ≤ n ∧ n ≤ 256 := by omega
  have HMt := Lib.hid (fun w => mod_eq t0 5000001 t (by omega) (by omega) ht w)
  have HMd := Lib.hid (fun w => mod_eq d0 5000001 d (by omega) (by omega) hd w)
  have HMn := Lib.hid (fun w => mod_eq n0 257 n (by omega) (by omega) hn w)
  obtain ⟨c, hc⟩ : ∃ z, charZ b p = z := ⟨_, rfl⟩
  obtain ⟨u, hu⟩ : ∃ z, t35Z b p = z := ⟨_, rfl⟩
  obtain ⟨f, hf⟩ : ∃ z, frameZ b p n = z := ⟨_, rfl⟩
  obtain ⟨f2, hf2⟩ : ∃ z, frameZ b p 256 = z := ⟨_, rfl⟩
  obtain ⟨z1, hz1⟩ : ∃ z, drainZ b p t d = z := ⟨_, rfl⟩
  obtain ⟨z2, hz2⟩ : ∃ z, initZ [(b, p)] t d = z := ⟨_, rfl⟩
  have HC := Lib.hid (fun w => char_eq b p c hc w)
  have HU := Lib.hid (fun w => t35_eq b p u hu w)
  have HF := Lib.hid (fun w => frame_eq b p n f hf w)
  have HF2 := Lib.hid (fun w => frame_eq b p 256 f2 hf2 w)
  have HD := Lib.hid (fun w => drain_any b p t d z1 hz1 w)
  have HI := Lib.hid (fun (W : World) (A : Option Addr) (cc B : Nat) (h : Rd W B 2 A 1 (stCells [(b, p)])) => initial_any [(b, p)] A 1 cc B t d z2 W h rfl (by decide) hz2)
  have hcb := char_bd b p
  have hub := t35_bd b p
  have hfe : f = n * c := by rw [← hf, frameZ, if_pos hn1, hc]
  have hf2e : f2 = 256 * c := by rw [← hf2, frameZ, if_pos (by omega), hc]
  have hz1e : z1 = 2 * u + t + d + 257 * c := by rw [← hz1, drainZ, if_pos ⟨hval, by simp; omega, by simp; omega⟩, hu, hc]
  have hz2e : z2 = z1 + f2 := by
    have hL : listB [(b, p)] = true := by simp [listB, okS, pOk, hval]
    have hd0 := drain_bd b p t d
    have hf0 := frame_bd b p 256
    rw [← hz2, initZ, if_pos ⟨hL, by simp; omega, by simp; omega⟩]
    simp only [mxD, mxF, List.foldl_cons, List.foldl_nil]
    rw [hz1, hf2]; rw [hz1] at hd0; rw [hf2] at hf0; omega
  rw [hc] at hcb
  rw [hu] at hub
  have hnc : n * c ≤ 256 * c := Int.mul_le_mul_of_nonneg_right hn1.2 hcb.1
  have hnc0 : 0 ≤ n * c := Int.mul_nonneg hn1.1 hcb.1
  have hf0 : 0 ≤ f ∧ f ≤ 256 * c := by rw [hfe]; exact ⟨hnc0, hnc⟩
  clear hc hu hf hf2 hz1 hz2 hfe hnc hnc0 ht hd hn hval
  obtain ⟨ht1, ht2⟩ := ht1
  obtain ⟨hd1, hd2⟩ := hd1
  obtain ⟨hn1, hn2⟩ := hn1
  obtain ⟨hcb1, hcb2⟩ := hcb
  obtain ⟨hub1, hub2⟩ := hub
  obtain ⟨hf1, hf2'⟩ := hf0
  have hj1 : (j : Int) < 24 := by omega
  have HE1 := Lib.hid hf2e
  have HE2 := Lib.hid hz1e
  have HE3 := Lib.hid hz2e
  have hz1b : 0 ≤ z1 ∧ z1 ≤ 20000000 := by omega
  have hf2b : 0 ≤ f2 ∧ f2 ≤ 2346752 := by omega
  have hz2b : 0 ≤ z2 ∧ z2 ≤ 30000000 := by omega
  clear hf2e hz1e hz2e
  go_enter Try.func6, Try.ntmps6
  go_wp2_with fail
  refine (all_any _).mono ?_
  rintro e w1 ⟨A1, c0, rfl, hown, hb1⟩
  obtain ⟨g1, off, rfl, _, hc⟩ := (Rd.of_own hown).2 (by omega)
  have c1 := hc _ _ E0.out
  have c2 := hc _ _ E1.out
  rw [← Nat.add_assoc] at c2
  clear hown hc
  go_wp2_with fail
  refine (HM.out _).mono ?_
  rintro e w' ⟨rfl, rfl⟩
  go_wp2_with fail
  refine (HMt.out _).mono ?_
  rintro e w' ⟨rfl, rfl⟩
  go_wp2_with fail
  refine (HMd.out _).mono ?_
  rintro e w' ⟨rfl, rfl⟩
  go_wp2_with fail
  refine (HMn.out _).mono ?_
  rintro e w' ⟨rfl, rfl⟩
  go_wp2_with fail
  obtain ⟨g, hg⟩ : ∃ g, w1.heap.size = g := ⟨_, rfl⟩
  obtain ⟨W1, hW1⟩ : ∃ W1, w1.alloc (.cells #[.int .i64 b, .int .i64 p] 23) = W1 := ⟨_, rfl⟩
  have HB := Lib.hid (show Box W1 g #[.int .i64 b, .int .i64 p] from hW1 ▸ hg ▸ Box.alloc_)
  have hbw : Below w.heap.size w W1 := hW1 ▸ ext_alloc hb1 _
  try rw [hg]
  try rw [hW1]
  have hbc0 : Below W1.heap.size W1 W1.drew := below_drew (Below.refl _ _)
  clear hW1 hg hb1 c1 c2
  have hS : (∀ i, W1.drew.cell? ⟨g, i, none⟩ = (#[.int .i64 b, .int .i64 p] : Array Value)[i]?) ∧ True ∧ True := ⟨HB.out.1, trivial, trivial⟩
  refine rgs_start (fun w' => (∀ i, w'.cell? ⟨g, i, none⟩ = (#[.int .i64 b, .int .i64 p] : Array Value)[i]?) ∧ True ∧ True) (by kernel_rfl) ?_
  refine rgs_t (v := ?_) (some 23) 0 (by kernel_rfl) rfl rfl (by assumption) (.inl ⟨by rfl, fun w' hw => ?_⟩) ?_
  rotate_left
  · obtain ⟨q1, q2, q3⟩ := hw; go_simp <;> with_reducible rfl
  try simp only [Act.put, List.setIfInBounds_toArray, List.set_cons_zero, List.set_cons_succ]
  refine rgs_t (v := ?_) (some 25) 2 (by kernel_rfl) rfl rfl (by assumption) (.inl ⟨by rfl, fun w' hw => ?_⟩) ?_
  rotate_left
  · obtain ⟨q1, q2, q3⟩ := hw; go_simp <;> with_reducible rfl
  try simp only [Act.put, List.setIfInBounds_toArray, List.set_cons_zero, List.set_cons_succ]
  refine rgs_t (v := ?_) (some 27) 4 (by kernel_rfl) rfl rfl (by assumption) (.inl ⟨by rfl, fun w' hw => ?_⟩) ?_
  rotate_left
  · obtain ⟨q1, q2, q3⟩ := hw; go_simp <;> with_reducible rfl
  try simp only [Act.put, List.setIfInBounds_toArray, List.set_cons_zero, List.set_cons_succ]
  refine rgs_t (v := ?_) (some 29) 6 (by kernel_rfl) rfl rfl (by assumption) (.inl ⟨by rfl, fun w' hw => ?_⟩) ?_
  rotate_left
  · obtain ⟨q1, q2, q3⟩ := hw; go_simp <;> with_reducible rfl
  try simp only [Act.put, List.setIfInBounds_toArray, List.set_cons_zero, List.set_cons_succ]
  refine rgs_t (v := ?_) (some 30) 7 (by kernel_rfl) rfl rfl (by assumption) (.inl ⟨by rfl, fun w' hw => ?_⟩) ?_
  rotate_left
  · obtain ⟨q1, q2, q3⟩ := hw; go_simp <;> with_reducible rfl
  try simp only [Act.put, List.setIfInBounds_toArray, List.set_cons_zero, List.set_cons_succ]
  refine rgs_c 1 (by kernel_rfl) rfl (by rfl) (fun K hK => ?_)
  go_simp
  refine (HU.out _).mono ?_
  rintro e x1 ⟨rfl, hb1⟩
  have hbc1 := ext_trans hbc0 hb1
  have hS1 : (∀ i, x1.cell? ⟨g, i, none⟩ = (#[.int .i64 b, .int .i64 p] : Array Value)[i]?) ∧ True ∧ True := ⟨(HB.out.below hbc1).1, trivial, trivial⟩
  refine hK _ _ hS1 ?_
  clear hK K
  try simp only [Act.put, List.setIfInBounds_toArray, List.set_cons_zero, List.set_cons_succ]
  refine rgs_t (v := ?_) (some 26) 3 (by kernel_rfl) rfl rfl (by assumption) (.inl ⟨by rfl, fun w' hw => ?_⟩) ?_
  rotate_left
  · obtain ⟨q1, q2, q3⟩ := hw; go_simp <;> with_reducible rfl
  try simp only [Act.put, List.setIfInBounds_toArray, List.set_cons_zero, List.set_cons_succ]
  refine rgs_t (v := ?_) (some 28) 5 (by kernel_rfl) rfl rfl (by assumption) (.inl ⟨by rfl, fun w' hw => ?_⟩) ?_
  rotate_left
  · obtain ⟨q1, q2, q3⟩ := hw; go_simp <;> with_reducible rfl
  try simp only [Act.put, List.setIfInBounds_toArray, List.set_cons_zero, List.set_cons_succ]
  refine rgs_c 8 (by kernel_rfl) rfl (by rfl) (fun K hK => ?_)
  go_simp
  refine (HF.out _).mono ?_
  rintro e x2 ⟨rfl, hb2⟩
  have hbc2 := ext_trans hbc1 hb2
  have hS2 : (∀ i, x2.cell? ⟨g, i, none⟩ = (#[.int .i64 b, .int .i64 p] : Array Value)[i]?) ∧ True ∧ True := ⟨(HB.out.below hbc2).1, trivial, trivial⟩
  refine hK _ _ hS2 ?_
  clear hK K
  try simp only [Act.put, List.setIfInBounds_toArray, List.set_cons_zero, List.set_cons_succ]
  refine rgs_t (v := ?_) (some 32) 9 (by kernel_rfl) rfl rfl (by assumption) (.inl ⟨by rfl, fun w' hw => ?_⟩) ?_
  rotate_left
  · obtain ⟨q1, q2, q3⟩ := hw; go_simp <;> with_reducible rfl
  try simp only [Act.put, List.setIfInBounds_toArray, List.set_cons_zero, List.set_cons_succ]
  refine rgs_t (v := ?_) (some 10) 10 (by kernel_rfl) rfl rfl (by assumption) (.inl ⟨by rfl, fun w' hw => ?_⟩) ?_
  rotate_left
  · obtain ⟨q1, q2, q3⟩ := hw; go_simp <;> with_reducible rfl
  try simp only [Act.put, List.setIfInBounds_toArray, List.set_cons_zero, List.set_cons_succ]
  refine rgs_d (by kernel_rfl) ?_
  obtain ⟨last, hlast⟩ : ∃ last, IntKind.i64.wrap (IntKind.i64.wrap (IntKind.i64.wrap (u + t) + d) + f) = last := ⟨_, rfl⟩
  have hle : last = u + t + d + f := by
    rw [← hlast]
    have e1 : IntKind.i64.wrap (u + t) = u + t := IntWalk.i64_in _ ⟨by omega, by omega⟩
    have e2 : IntKind.i64.wrap (u + t + d) = u + t + d := IntWalk.i64_in _ ⟨by omega, by omega⟩
    have e3 : IntKind.i64.wrap (u + t + d + f) = u + t + d + f := IntWalk.i64_in _ ⟨by omega, by omega⟩
    rw [e1, e2, e3]
  try rw [hlast]
  have HLE := Lib.hid hle
  have hlb : 0 ≤ last ∧ last ≤ 20000000 := by omega
  clear hle hlast
  obtain ⟨q2, z2', l2⟩ := HB.out.below hbc2
  have y0 : x2.cell? ⟨g, 0, none⟩ = some (.int .i64 b) := q2 0
  have y1 : x2.cell? ⟨g, 1, none⟩ = some (.int .i64 p) := q2 1
  clear q2 z2' l2
  go_wp2_with fail
  refine (HD.out _).mono ?_
  rintro e x3 ⟨rfl, hb3⟩
  have hbc3 := (ext_trans hbc2 hb3)
  clear y0 y1 hS hS1 hS2 hbc0 hbc1 hb1 hb2 hb3
  go_wp2_with fail
  have hbc4 : Below W1.heap.size W1 x3.drew := below_drew hbc3
  have hS : (∀ i, x3.drew.cell? ⟨g, i, none⟩ = (#[.int .i64 b, .int .i64 p] : Array Value)[i]?) ∧ True ∧ True := ⟨(HB.out.below hbc4).1, trivial, trivial⟩
  have k1 : IntKind.i64.wrap (last + u) = last + u := IntWalk.i64_in _ ⟨by omega, by omega⟩
  have k2 : IntKind.i64.wrap (last + u + c) = last + u + c := IntWalk.i64_in _ ⟨by omega, by omega⟩
  have k3 : decide (last + u + c ≤ z1) = true := by have := HE2.out; have := HLE.out; simp; omega
  have k4 : IntKind.i64.wrap (z1 + f2) = z2 := by rw [HE3.out]; exact IntWalk.i64_in _ ⟨by omega, by omega⟩
  refine rgs_start (fun w' => (∀ i, w'.cell? ⟨g, i, none⟩ = (#[.int .i64 b, .int .i64 p] : Array Value)[i]?) ∧ True ∧ True) (by kernel_rfl) ?_
  refine rgs_c 0 (by kernel_rfl) rfl (by rfl) (fun K hK => ?_)
  go_simp
  refine (awake_any _).mono ?_
  rintro e x5 ⟨rfl, hb5⟩
  have hbc5 := ext_trans hbc4 hb5
  have hS5 : (∀ i, x5.cell? ⟨g, i, none⟩ = (#[.int .i64 b, .int .i64 p] : Array Value)[i]?) ∧ True ∧ True := ⟨(HB.out.below hbc5).1, trivial, trivial⟩
  refine hK _ _ hS5 ?_
  clear hK K
  try simp only [Act.put, List.setIfInBounds_toArray, List.set_cons_zero, List.set_cons_succ]
  refine rgs_t (v := ?_) (some 38) 1 (by kernel_rfl) rfl rfl (by assumption) (.inl ⟨by rfl, fun w' hw => ?_⟩) ?_
  rotate_left
  · obtain ⟨q1, q2, q3⟩ := hw; go_simp <;> with_reducible rfl
  try simp only [Act.put, List.setIfInBounds_toArray, List.set_cons_zero, List.set_cons_succ]
  refine rgs_t (v := ?_) (some 39) 2 (by kernel_rfl) rfl rfl (by assumption) (.inl ⟨by rfl, fun w' hw => ?_⟩) ?_
  rotate_left
  · obtain ⟨q1, q2, q3⟩ := hw; go_simp <;> with_reducible rfl
  try simp only [Act.put, List.setIfInBounds_toArray, List.set_cons_zero, List.set_cons_succ]
  refine rgs_t (v := ?_) (some 40) 3 (by kernel_rfl) rfl rfl (by assumption) (.inl ⟨by rfl, fun w' hw => ?_⟩) ?_
  rotate_left
  · obtain ⟨q1, q2, q3⟩ := hw; go_simp <;> with_reducible rfl
  try simp only [Act.put, List.setIfInBounds_toArray, List.set_cons_zero, List.set_cons_succ]
  refine rgs_t (v := ?_) (some 41) 4 (by kernel_rfl) rfl rfl (by assumption) (.inl ⟨by rfl, fun w' hw => ?_⟩) ?_
  rotate_left
  · obtain ⟨q1, q2, q3⟩ := hw; go_simp <;> with_reducible rfl
  try simp only [Act.put, List.setIfInBounds_toArray, List.set_cons_zero, List.set_cons_succ]
  refine rgs_t (v := ?_) (some 44) 7 (by kernel_rfl) rfl rfl (by assumption) (.inl ⟨by rfl, fun w' hw => ?_⟩) ?_
  rotate_left
  · obtain ⟨q1, q2, q3⟩ := hw; go_simp <;> with_reducible rfl
  try simp only [Act.put, List.setIfInBounds_toArray, List.set_cons_zero, List.set_cons_succ]
  refine rgs_c 5 (by kernel_rfl) rfl (by rfl) (fun K hK => ?_)
  go_simp
  refine (HU.out _).mono ?_
  rintro e x6 ⟨rfl, hb6⟩
  have hbc6 := ext_trans hbc5 hb6
  have hS6 : (∀ i, x6.cell? ⟨g, i, none⟩ = (#[.int .i64 b, .int .i64 p] : Array Value)[i]?) ∧ True ∧ True := ⟨(HB.out.below hbc6).1, trivial, trivial⟩
  refine hK _ _ hS6 ?_
  clear hK K
  try simp only [Act.put, List.setIfInBounds_toArray, List.set_cons_zero, List.set_cons_succ]
  refine rgs_t (v := ?_) (some 43) 6 (by kernel_rfl) rfl rfl (by assumption) (.inl ⟨by rfl, fun w' hw => ?_⟩) ?_
  rotate_left
  · obtain ⟨q1, q2, q3⟩ := hw; go_simp <;> with_reducible rfl
  try simp only [Act.put, List.setIfInBounds_toArray, List.set_cons_zero, List.set_cons_succ]
  refine rgs_c 8 (by kernel_rfl) rfl (by rfl) (fun K hK => ?_)
  go_simp
  refine (HC.out _).mono ?_
  rintro e x7 ⟨rfl, hb7⟩
  have hbc7 := ext_trans hbc6 hb7
  have hS7 : (∀ i, x7.cell? ⟨g, i, none⟩ = (#[.int .i64 b, .int .i64 p] : Array Value)[i]?) ∧ True ∧ True := ⟨(HB.out.below hbc7).1, trivial, trivial⟩
  refine hK _ _ hS7 ?_
  clear hK K
  try simp only [Act.put, List.setIfInBounds_toArray, List.set_cons_zero, List.set_cons_succ]
  refine rgs_t (v := ?_) (some 46) 9 (by kernel_rfl) rfl rfl (by assumption) (.inl ⟨by rfl, fun w' hw => ?_⟩) ?_
  rotate_left
  · obtain ⟨q1, q2, q3⟩ := hw; go_simp <;> with_reducible rfl
  try simp only [Act.put, List.setIfInBounds_toArray, List.set_cons_zero, List.set_cons_succ]
  refine rgs_t (v := ?_) (some 47) 10 (by kernel_rfl) rfl rfl (by assumption) (.inl ⟨by rfl, fun w' hw => ?_⟩) ?_
  rotate_left
  · obtain ⟨q1, q2, q3⟩ := hw; go_simp <;> with_reducible rfl
  try simp only [Act.put, List.setIfInBounds_toArray, List.set_cons_zero, List.set_cons_succ]
  refine rgs_t (v := ?_) (some 48) 11 (by kernel_rfl) rfl rfl (by assumption) (.inl ⟨by rfl, fun w' hw => ?_⟩) ?_
  rotate_left
  · obtain ⟨q1, q2, q3⟩ := hw; go_simp <;> with_reducible rfl
  try simp only [Act.put, List.setIfInBounds_toArray, List.set_cons_zero, List.set_cons_succ]
  refine rgs_t (v := ?_) (some 49) 12 (by kernel_rfl) rfl rfl (by assumption) (.inl ⟨by rfl, fun w' hw => ?_⟩) ?_
  rotate_left
  · obtain ⟨q1, q2, q3⟩ := hw; go_simp <;> with_reducible rfl
  try simp only [Act.put, List.setIfInBounds_toArray, List.set_cons_zero, List.set_cons_succ]
  refine rgs_t (v := ?_) (some 50) 13 (by kernel_rfl) rfl rfl (by assumption) (.inl ⟨by rfl, fun w' hw => ?_⟩) ?_
  rotate_left
  · obtain ⟨q1, q2, q3⟩ := hw; go_simp <;> with_reducible rfl
  try simp only [Act.put, List.setIfInBounds_toArray, List.set_cons_zero, List.set_cons_succ]
  refine rgs_t (v := ?_) (some 52) 15 (by kernel_rfl) rfl rfl (by assumption) (.inl ⟨by rfl, fun w' hw => ?_⟩) ?_
  rotate_left
  · obtain ⟨q1, q2, q3⟩ := hw; go_simp <;> with_reducible rfl
  try simp only [Act.put, List.setIfInBounds_toArray, List.set_cons_zero, List.set_cons_succ]
  refine rgs_t (v := ?_) (some 53) 16 (by kernel_rfl) rfl rfl (by assumption) (.inl ⟨by rfl, fun w' hw => ?_⟩) ?_
  rotate_left
  · obtain ⟨q1, q2, q3⟩ := hw; go_simp <;> with_reducible rfl
  try simp only [Act.put, List.setIfInBounds_toArray, List.set_cons_zero, List.set_cons_succ]
  refine rgs_t (v := ?_) (some 55) 18 (by kernel_rfl) rfl rfl (by assumption) (.inl ⟨by rfl, fun w' hw => ?_⟩) ?_
  rotate_left
  · obtain ⟨q1, q2, q3⟩ := hw; go_simp <;> with_reducible rfl
  try simp only [Act.put, List.setIfInBounds_toArray, List.set_cons_zero, List.set_cons_succ]
  refine rgs_t (v := ?_) (some 56) 19 (by kernel_rfl) rfl rfl (by assumption) (.inl ⟨by rfl, fun w' hw => ?_⟩) ?_
  rotate_left
  · obtain ⟨q1, q2, q3⟩ := hw; go_simp <;> with_reducible rfl
  try simp only [Act.put, List.setIfInBounds_toArray, List.set_cons_zero, List.set_cons_succ]
  refine rgs_c 14 (by kernel_rfl) rfl (by rfl) (fun K hK => ?_)
  go_simp
  have hbc8 : Below W1.heap.size W1 (x7.alloc (.cells #[.int .i64 b, .int .i64 p] 23)) := hbc7.alloc hbc7.size _
  have hRd : Rd (x7.alloc (.cells #[.int .i64 b, .int .i64 p] 23)) (x7.heap.size + 1) 2 (some ⟨x7.heap.size, 0, none⟩) 1 (stCells [(b, p)]) := Rd.lit (w := x7) (cs := #[.int .i64 b, .int .i64 p]) rfl (Nat.lt_succ_self _)
  have hS8 : (∀ i, (x7.alloc (.cells #[.int .i64 b, .int .i64 p] 23)).cell? ⟨g, i, none⟩ = (#[.int .i64 b, .int .i64 p] : Array Value)[i]?) ∧ True ∧ True := ⟨(HB.out.below hbc8).1, trivial, trivial⟩
  refine hK _ _ hS8 ?_
  clear hK K
  try simp only [Act.put, List.setIfInBounds_toArray, List.set_cons_zero, List.set_cons_succ]
  refine rgs_c 17 (by kernel_rfl) rfl (by rfl) (fun K hK => ?_)
  go_simp
  refine (HI.out _ _ _ _ hRd).mono ?_
  rintro e x9 ⟨rfl, hb9⟩
  have hbc9 := ext_trans hbc8 hb9
  have hS9 : (∀ i, x9.cell? ⟨g, i, none⟩ = (#[.int .i64 b, .int .i64 p] : Array Value)[i]?) ∧ True ∧ True := ⟨(HB.out.below hbc9).1, trivial, trivial⟩
  refine hK _ _ hS9 ?_
  clear hK K
  try simp only [Act.put, List.setIfInBounds_toArray, List.set_cons_zero, List.set_cons_succ]
  refine rgs_c 20 (by kernel_rfl) rfl (by rfl) (fun K hK => ?_)
  go_simp
  refine (HF2.out _).mono ?_
  rintro e x10 ⟨rfl, hb10⟩
  have hbc10 := ext_trans hbc9 hb10
  have hS10 : (∀ i, x10.cell? ⟨g, i, none⟩ = (#[.int .i64 b, .int .i64 p] : Array Value)[i]?) ∧ True ∧ True := ⟨(HB.out.below hbc10).1, trivial, trivial⟩
  refine hK _ _ hS10 ?_
  clear hK K
  try simp only [Act.put, List.setIfInBounds_toArray, List.set_cons_zero, List.set_cons_succ]
  refine rgs_t (v := ?_) (some 58) 21 (by kernel_rfl) rfl rfl (by assumption) (.inl ⟨by rfl, fun w' hw => ?_⟩) ?_
  rotate_left
  · obtain ⟨q1, q2, q3⟩ := hw; go_simp <;> with_reducible rfl
  try simp only [Act.put, List.setIfInBounds_toArray, List.set_cons_zero, List.set_cons_succ]
  refine rgs_t (v := ?_) (some 59) 22 (by kernel_rfl) rfl rfl (by assumption) (.inl ⟨by rfl, fun w' hw => ?_⟩) ?_
  rotate_left
  · obtain ⟨q1, q2, q3⟩ := hw; go_simp <;> with_reducible rfl
  try simp only [Act.put, List.setIfInBounds_toArray, List.set_cons_zero, List.set_cons_succ]
  refine rgs_t (v := ?_) (some 60) 23 (by kernel_rfl) rfl rfl (by assumption) (.inl ⟨by rfl, fun w' hw => ?_⟩) ?_
  rotate_left
  · obtain ⟨q1, q2, q3⟩ := hw; go_simp <;> with_reducible rfl
  try simp only [Act.put, List.setIfInBounds_toArray, List.set_cons_zero, List.set_cons_succ]
  refine rgs_t (v := ?_) (some 8) 24 (by kernel_rfl) rfl rfl (by assumption) (.inl ⟨by rfl, fun w' hw => ?_⟩) ?_
  rotate_left
  · obtain ⟨q1, q2, q3⟩ := hw; go_simp <;> with_reducible rfl
  try simp only [Act.put, List.setIfInBounds_toArray, List.set_cons_zero, List.set_cons_succ]
  refine rgs_d (by kernel_rfl) ?_
  go_wp2
  go_ret
  exact ⟨rfl, ext_trans hbw hbc10⟩
end Go.Proofs.Ytikhlmliefnccaa

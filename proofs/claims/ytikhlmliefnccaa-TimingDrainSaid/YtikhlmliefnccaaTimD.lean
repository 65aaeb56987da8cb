/- Layer 6: the laws TimingDrain and TimingCovers. -/
import Derived.Test.YtikhlmliefnccaaIni
import Derived.Test.YtikhlmliefnccaaOpenS
set_option linter.unusedVariables false
set_option linter.unusedSimpArgs false
namespace Go.Proofs.Ytikhlmliefnccaa
open Go.RowKit

theorem own_alloc_box {w : World} {cs : Array Value} {e : TypeId} : Box (w.alloc (.cells cs e)) w.heap.size cs := Box.alloc_

set_option maxRecDepth 100000 in
set_option maxHeartbeats 4000000 in
theorem lawDrain_any (ss : List St) (A : Option Addr) (n c : Nat) (k t d : Int) (w : World) (hr : Rd w w.heap.size 2 A n (stCells ss)) (hl : ss.length = n) (hn : n ≤ maxLen) (hnc : n ≤ c) :
    Calls Try.prog 5 #[.slice A n c, .int .i64 k, .int .i64 t, .int .i64 d] w fun e w' => e = .returned (.bool true) ∧ Below w.heap.size w w' := by
  obtain ⟨j, hj, hm⟩ := all_in k
  have hM := fun w => mod_any k 24 (by omega) (by omega) w
  rw [hm] at hM
  have HM := Lib.hid hM; clear hM hm
  have hlj : j < allL.length := by rw [all_length]; exact hj
  obtain ⟨e0, e1⟩ := st_get0 allL j hlj
  obtain ⟨b, hb⟩ : ∃ b, (allL[j]).1 = b := ⟨_, rfl⟩
  obtain ⟨p, hp⟩ : ∃ p, (allL[j]).2 = p := ⟨_, rfl⟩
  rw [hb] at e0
  rw [hp] at e1
  have E0 := Lib.hid e0; have E1 := Lib.hid e1
  clear hb hp e0 e1
  obtain ⟨m, hmm⟩ : ∃ m, min n 8 = m := ⟨_, rfl⟩
  have hmn : m ≤ n := by omega
  have hR8 : Rd w w.heap.size 2 A m (stCells (ss.take m)) := by
    have h1 := hr.take hmn
    have e : (stCells ss).take (m * 2) = stCells (ss.take m) := by
      have : ∀ (l : List St) (m : Nat), (stCells l).take (m * 2) = stCells (l.take m) := by
        intro l
        induction l with
        | nil => intro m; simp [stCells]
        | cons s l ih =>
          intro m
          rcases m with _ | m
          · simp [stCells]
          · have := ih m
            rw [show (m + 1) * 2 = m * 2 + 1 + 1 by omega]
            simpa [stCells, stRow] using this
      exact this ss m
    rwa [e] at h1
  have hl8 : (ss.take m).length = m := by rw [List.length_take]; omega
  obtain ⟨z1, hz1⟩ : ∃ z, drainZ b p t d = z := ⟨_, rfl⟩
  obtain ⟨z2, hz2⟩ : ∃ z, initZ (ss.take m) t d = z := ⟨_, rfl⟩
  have HD := Lib.hid (fun w => drain_any b p t d z1 hz1 w)
  have HRD := Lib.hid (fun w => rdrain_any b p t d z1 hz1 w)
  have HI0 := fun (W : World) (h : Below w.heap.size w W) => initial_any (ss.take m) A m c _ t d z2 W (hR8.below h (Nat.le_refl _)) hl8 (by omega) hz2
  have HRI0 := fun (W : World) (h : Below w.heap.size w W) => rinitial_any (ss.take m) A m c _ t d z2 W (hR8.below h (Nat.le_refl _)) hl8 (by omega) hz2
  have HI := Lib.hid HI0
  have HRI := Lib.hid HRI0
  have hj1 : (j : Int) < 24 := by omega
  unfold maxLen at hn
  clear hr hl hR8 hl8 hz1 hz2 HI0 HRI0
  rcases (show (n ≤ 8 ∧ m = n) ∨ (8 < n ∧ m = 8) by omega) with ⟨h8, rfl⟩ | ⟨h8, rfl⟩
  all_goals
    go_enter Try.func5, Try.ntmps5
    go_wp2_with fail
    refine (all_any _).mono ?_
    rintro e w1 ⟨A1, c0, rfl, hown, hb1⟩
    obtain ⟨g1, off, rfl, _, hc⟩ := (Rd.of_own hown).2 (by omega)
    have c1 := hc _ _ E0.out
    have c2 := hc _ _ E1.out
    rw [← Nat.add_assoc] at c2
    clear hown hc
    go_wp2_with fail
    refine (HM.out _).mono ?_
    rintro e w' ⟨rfl, rfl⟩
    go_wp2_with fail
    obtain ⟨g, hg⟩ : ∃ g, w1.heap.size = g := ⟨_, rfl⟩
    obtain ⟨W1, hW1⟩ : ∃ W1, w1.alloc (.cells #[.int .i64 b, .int .i64 p] 23) = W1 := ⟨_, rfl⟩
    have HB := Lib.hid (show Box W1 g #[.int .i64 b, .int .i64 p] from hW1 ▸ hg ▸ Box.alloc_)
    have hbw : Below w.heap.size w W1 := hW1 ▸ ext_alloc hb1 _
    try rw [hg]
    try rw [hW1]
    have hbc0 : Below W1.heap.size W1 W1.drew := below_drew (Below.refl _ _)
    clear hW1 hg hb1 c1 c2
    have hS : (∀ i, W1.drew.cell? ⟨g, i, none⟩ = (#[.int .i64 b, .int .i64 p] : Array Value)[i]?) ∧ True ∧ True := ⟨HB.out.1, trivial, trivial⟩
    refine rgs_start (fun w' => (∀ i, w'.cell? ⟨g, i, none⟩ = (#[.int .i64 b, .int .i64 p] : Array Value)[i]?) ∧ True ∧ True) (by kernel_rfl) ?_
    refine rgs_c 0 (by kernel_rfl) rfl (by rfl) (fun K hK => ?_)
    go_simp
    refine (awake_any _).mono ?_
    rintro e x1 ⟨rfl, hb1⟩
    have hbc1 := ext_trans hbc0 hb1
    have hS1 : (∀ i, x1.cell? ⟨g, i, none⟩ = (#[.int .i64 b, .int .i64 p] : Array Value)[i]?) ∧ True ∧ True := ⟨(HB.out.below hbc1).1, trivial, trivial⟩
    refine hK _ _ hS1 ?_
    clear hK K
    try simp only [Act.put, List.setIfInBounds_toArray, List.set_cons_zero, List.set_cons_succ]
    refine rgs_t (v := ?_) (some 21) 1 (by kernel_rfl) rfl rfl (by assumption) (.inl ⟨by rfl, fun w' hw => ?_⟩) ?_
    rotate_left
    · obtain ⟨q1, q2, q3⟩ := hw; go_simp <;> with_reducible rfl
    try simp only [Act.put, List.setIfInBounds_toArray, List.set_cons_zero, List.set_cons_succ]
    refine rgs_t (v := ?_) (some 22) 2 (by kernel_rfl) rfl rfl (by assumption) (.inl ⟨by rfl, fun w' hw => ?_⟩) ?_
    rotate_left
    · obtain ⟨q1, q2, q3⟩ := hw; go_simp <;> with_reducible rfl
    try simp only [Act.put, List.setIfInBounds_toArray, List.set_cons_zero, List.set_cons_succ]
    refine rgs_t (v := ?_) (some 23) 3 (by kernel_rfl) rfl rfl (by assumption) (.inl ⟨by rfl, fun w' hw => ?_⟩) ?_
    rotate_left
    · obtain ⟨q1, q2, q3⟩ := hw; go_simp <;> with_reducible rfl
    try simp only [Act.put, List.setIfInBounds_toArray, List.set_cons_zero, List.set_cons_succ]
    refine rgs_t (v := ?_) (some 24) 4 (by kernel_rfl) rfl rfl (by assumption) (.inl ⟨by rfl, fun w' hw => ?_⟩) ?_
    rotate_left
    · obtain ⟨q1, q2, q3⟩ := hw; go_simp <;> with_reducible rfl
    try simp only [Act.put, List.setIfInBounds_toArray, List.set_cons_zero, List.set_cons_succ]
    refine rgs_t (v := ?_) (some 26) 6 (by kernel_rfl) rfl rfl (by assumption) (.inl ⟨by rfl, fun w' hw => ?_⟩) ?_
    rotate_left
    · obtain ⟨q1, q2, q3⟩ := hw; go_simp <;> with_reducible rfl
    try simp only [Act.put, List.setIfInBounds_toArray, List.set_cons_zero, List.set_cons_succ]
    refine rgs_t (v := ?_) (some 27) 7 (by kernel_rfl) rfl rfl (by assumption) (.inl ⟨by rfl, fun w' hw => ?_⟩) ?_
    rotate_left
    · obtain ⟨q1, q2, q3⟩ := hw; go_simp <;> with_reducible rfl
    try simp only [Act.put, List.setIfInBounds_toArray, List.set_cons_zero, List.set_cons_succ]
    refine rgs_t (v := ?_) (some 28) 8 (by kernel_rfl) rfl rfl (by assumption) (.inl ⟨by rfl, fun w' hw => ?_⟩) ?_
    rotate_left
    · obtain ⟨q1, q2, q3⟩ := hw; go_simp <;> with_reducible rfl
    try simp only [Act.put, List.setIfInBounds_toArray, List.set_cons_zero, List.set_cons_succ]
    refine rgs_c 5 (by kernel_rfl) rfl (by rfl) (fun K hK => ?_)
    go_simp
    refine (HD.out _).mono ?_
    rintro e x2 ⟨rfl, hb2⟩
    have hbc2 := ext_trans hbc1 hb2
    have hS2 : (∀ i, x2.cell? ⟨g, i, none⟩ = (#[.int .i64 b, .int .i64 p] : Array Value)[i]?) ∧ True ∧ True := ⟨(HB.out.below hbc2).1, trivial, trivial⟩
    refine hK _ _ hS2 ?_
    clear hK K
    try simp only [Act.put, List.setIfInBounds_toArray, List.set_cons_zero, List.set_cons_succ]
    refine rgs_c 9 (by kernel_rfl) rfl (by rfl) (fun K hK => ?_)
    go_simp
    refine (HRD.out _).mono ?_
    rintro e x3 ⟨rfl, hb3⟩
    have hbc3 := ext_trans hbc2 hb3
    have hS3 : (∀ i, x3.cell? ⟨g, i, none⟩ = (#[.int .i64 b, .int .i64 p] : Array Value)[i]?) ∧ True ∧ True := ⟨(HB.out.below hbc3).1, trivial, trivial⟩
    refine hK _ _ hS3 ?_
    clear hK K
    try simp only [Act.put, List.setIfInBounds_toArray, List.set_cons_zero, List.set_cons_succ]
    refine rgs_t (v := ?_) (some 30) 10 (by kernel_rfl) rfl rfl (by assumption) (.inl ⟨by rfl, fun w' hw => ?_⟩) ?_
    rotate_left
    · obtain ⟨q1, q2, q3⟩ := hw; go_simp <;> with_reducible rfl
    try simp only [Act.put, List.setIfInBounds_toArray, List.set_cons_zero, List.set_cons_succ]
    refine rgs_t (v := ?_) (some 31) 11 (by kernel_rfl) rfl rfl (by assumption) (.inl ⟨by rfl, fun w' hw => ?_⟩) ?_
    rotate_left
    · obtain ⟨q1, q2, q3⟩ := hw; go_simp <;> with_reducible rfl
    try simp only [Act.put, List.setIfInBounds_toArray, List.set_cons_zero, List.set_cons_succ]
    refine rgs_t (v := ?_) (some 32) 12 (by kernel_rfl) rfl rfl (by assumption) (.inl ⟨by rfl, fun w' hw => ?_⟩) ?_
    rotate_left
    · obtain ⟨q1, q2, q3⟩ := hw; go_simp <;> with_reducible rfl
    try simp only [Act.put, List.setIfInBounds_toArray, List.set_cons_zero, List.set_cons_succ]
    refine rgs_t (v := ?_) (some 33) 13 (by kernel_rfl) rfl rfl (by assumption) (.inl ⟨by rfl, fun w' hw => ?_⟩) ?_
    rotate_left
    · obtain ⟨q1, q2, q3⟩ := hw; go_simp <;> with_reducible rfl
    try simp only [Act.put, List.setIfInBounds_toArray, List.set_cons_zero, List.set_cons_succ]
    refine rgs_t (v := ?_) (some 34) 14 (by kernel_rfl) rfl rfl (by assumption) (.inl ⟨by rfl, fun w' hw => ?_⟩) ?_
    rotate_left
    · obtain ⟨q1, q2, q3⟩ := hw; go_simp <;> with_reducible rfl
    try simp only [Act.put, List.setIfInBounds_toArray, List.set_cons_zero, List.set_cons_succ]
    refine rgs_t (v := ?_) (some 35) 15 (by kernel_rfl) rfl rfl (by assumption) (.inl ⟨by rfl, fun w' hw => ?_⟩) ?_
    rotate_left
    · obtain ⟨q1, q2, q3⟩ := hw; go_simp <;> with_reducible rfl
    try simp only [Act.put, List.setIfInBounds_toArray, List.set_cons_zero, List.set_cons_succ]
    refine rgs_t (v := ?_) (some 37) 17 (by kernel_rfl) rfl rfl (by assumption) (.inl ⟨by rfl, fun w' hw => ?_⟩) ?_
    rotate_left
    · obtain ⟨q1, q2, q3⟩ := hw; go_simp <;> with_reducible rfl
    try simp only [Act.put, List.setIfInBounds_toArray, List.set_cons_zero, List.set_cons_succ]
    refine rgs_t (v := ?_) (some 38) 18 (by kernel_rfl) rfl rfl (by assumption) (.inl ⟨by rfl, fun w' hw => ?_⟩) ?_
    rotate_left
    · obtain ⟨q1, q2, q3⟩ := hw; go_simp <;> with_reducible rfl
    try simp only [Act.put, List.setIfInBounds_toArray, List.set_cons_zero, List.set_cons_succ]
    refine rgs_t (v := ?_) (some 39) 19 (by kernel_rfl) rfl rfl (by assumption) (.inl ⟨by rfl, fun w' hw => ?_⟩) ?_
    rotate_left
    · obtain ⟨q1, q2, q3⟩ := hw; go_simp <;> with_reducible rfl
    try simp only [Act.put, List.setIfInBounds_toArray, List.set_cons_zero, List.set_cons_succ]
    refine rgs_c 16 (by kernel_rfl) rfl (by rfl) (fun K hK => ?_)
    go_simp
    refine (HI.out _ (ext_trans hbw hbc3)).mono ?_
    rintro e x4 ⟨rfl, hb4⟩
    have hbc4 := ext_trans hbc3 hb4
    have hS4 : (∀ i, x4.cell? ⟨g, i, none⟩ = (#[.int .i64 b, .int .i64 p] : Array Value)[i]?) ∧ True ∧ True := ⟨(HB.out.below hbc4).1, trivial, trivial⟩
    refine hK _ _ hS4 ?_
    clear hK K
    try simp only [Act.put, List.setIfInBounds_toArray, List.set_cons_zero, List.set_cons_succ]
    refine rgs_c 20 (by kernel_rfl) rfl (by rfl) (fun K hK => ?_)
    go_simp
    refine (HRI.out _ (ext_trans hbw hbc4)).mono ?_
    rintro e x5 ⟨rfl, hb5⟩
    have hbc5 := ext_trans hbc4 hb5
    have hS5 : (∀ i, x5.cell? ⟨g, i, none⟩ = (#[.int .i64 b, .int .i64 p] : Array Value)[i]?) ∧ True ∧ True := ⟨(HB.out.below hbc5).1, trivial, trivial⟩
    refine hK _ _ hS5 ?_
    clear hK K
    try simp only [Act.put, List.setIfInBounds_toArray, List.set_cons_zero, List.set_cons_succ]
    refine rgs_t (v := ?_) (some 41) 21 (by kernel_rfl) rfl rfl (by assumption) (.inl ⟨by rfl, fun w' hw => ?_⟩) ?_
    rotate_left
    · obtain ⟨q1, q2, q3⟩ := hw; go_simp <;> with_reducible rfl
    try simp only [Act.put, List.setIfInBounds_toArray, List.set_cons_zero, List.set_cons_succ]
    refine rgs_t (v := ?_) (some 42) 22 (by kernel_rfl) rfl rfl (by assumption) (.inl ⟨by rfl, fun w' hw => ?_⟩) ?_
    rotate_left
    · obtain ⟨q1, q2, q3⟩ := hw; go_simp <;> with_reducible rfl
    try simp only [Act.put, List.setIfInBounds_toArray, List.set_cons_zero, List.set_cons_succ]
    refine rgs_t (v := ?_) (some 8) 23 (by kernel_rfl) rfl rfl (by assumption) (.inl ⟨by rfl, fun w' hw => ?_⟩) ?_
    rotate_left
    · obtain ⟨q1, q2, q3⟩ := hw; go_simp <;> with_reducible rfl
    try simp only [Act.put, List.setIfInBounds_toArray, List.set_cons_zero, List.set_cons_succ]
    refine rgs_d (by kernel_rfl) ?_
    go_wp2
    go_ret
    exact ⟨rfl, ext_trans hbw hbc5⟩
theorem lawDrainI (ss : List St) (A : Option Addr) (c : Nat) (k t d : Int) (w : World) (hr : Rd w w.heap.size 2 A ss.length (stCells ss)) (hlc : ss.length ≤ c) (hc : c ≤ maxLen) :
    Calls Try.prog 5 #[.slice A ss.length c, .int .i64 k, .int .i64 t, .int .i64 d] w fun e w' => e = .returned (.bool true) ∧ Below w.heap.size w w' :=
  lawDrain_any ss A _ c k t d w hr rfl (by omega) hlc
end Go.Proofs.Ytikhlmliefnccaa

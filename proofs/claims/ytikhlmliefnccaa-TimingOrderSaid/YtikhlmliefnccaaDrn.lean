/- Layer 6: contracts of Drain (printed by drn.py). -/
import Derived.Test.YtikhlmliefnccaaLstL
import Derived.Test.YtikhlmliefnccaaTimL
set_option linter.unusedVariables false
set_option linter.unusedSimpArgs false
namespace Go.Proofs.Ytikhlmliefnccaa
open Go.RowKit

def drainZ (b p t d : Int) : Int := if validB b p = true ∧ decide (0 ≤ t ∧ t ≤ 5000000) = true ∧ decide (0 ≤ d ∧ d ≤ 5000000) = true then 2 * t35Z b p + t + d + 257 * charZ b p else 0
theorem t35_bd (b p : Int) : 0 ≤ t35Z b p ∧ t35Z b p ≤ 32084 := by
  unfold t35Z
  split
  · rename_i h
    simp only [validB, Bool.and_eq_true, decide_eq_true_eq] at h
    have := h.1
    simp only [bauds, List.mem_cons, List.not_mem_nil, or_false] at this
    rcases this with rfl | rfl | rfl | rfl | rfl | rfl | rfl | rfl <;> decide
  · omega
theorem drain_bd (b p t d : Int) : 0 ≤ drainZ b p t d ∧ drainZ b p t d ≤ 20000000 := by
  have h1 := t35_bd b p
  have h2 := char_bd b p
  unfold drainZ
  split
  · rename_i h
    have h3 : 0 ≤ t ∧ t ≤ 5000000 := by simpa using h.2.1
    have h4 : 0 ≤ d ∧ d ≤ 5000000 := by simpa using h.2.2
    omega
  · omega
theorem frame_bd (b p n : Int) : 0 ≤ frameZ b p n ∧ frameZ b p n ≤ 2346752 := by
  have h2 := char_bd b p
  unfold frameZ
  split
  · rename_i h
    have hm1 : 0 ≤ n * charZ b p := Int.mul_nonneg h.1 h2.1
    have hm2 : n * charZ b p ≤ 256 * 9167 := Int.mul_le_mul h.2 h2.2 h2.1 (by omega)
    omega
  · omega

theorem poss_any (x : Int) (r : Bool) (h : decide (0 ≤ x ∧ x ≤ 5000000) = r) (w : World) : Calls Try.prog 27 #[.int .i64 x] w fun e w' => e = .returned (.bool r) ∧ w = w' := by
  by_cases h1 : 0 ≤ x
  · by_cases h2 : x ≤ 5000000
    · obtain rfl : r = true := by rw [← h]; simp [h1, h2]
      clear h
      go_enter Try.func27, Try.ntmps27
      go_wp2
      go_ret
      exact ⟨rfl, rfl⟩
    · obtain rfl : r = false := by rw [← h]; simp [h2]
      clear h
      go_enter Try.func27, Try.ntmps27
      go_wp2
      go_ret
      exact ⟨rfl, rfl⟩
  · obtain rfl : r = false := by rw [← h]; simp [h1]
    clear h
    go_enter Try.func27, Try.ntmps27
    go_wp2
    go_ret
    exact ⟨rfl, rfl⟩

theorem ticks_any (x : Int) (r : Bool) (h : decide (0 ≤ x ∧ x ≤ 5000000) = r) (w : World) : Calls Try.prog 28 #[.int .i64 x] w fun e w' => e = .returned (.bool r) ∧ w = w' := by
  by_cases h1 : 0 ≤ x
  · by_cases h2 : x ≤ 5000000
    · obtain rfl : r = true := by rw [← h]; simp [h1, h2]
      clear h
      go_enter Try.func28, Try.ntmps28
      go_wp2
      go_ret
      exact ⟨rfl, rfl⟩
    · obtain rfl : r = false := by rw [← h]; simp [h2]
      clear h
      go_enter Try.func28, Try.ntmps28
      go_wp2
      go_ret
      exact ⟨rfl, rfl⟩
  · obtain rfl : r = false := by rw [← h]; simp [h1]
    clear h
    go_enter Try.func28, Try.ntmps28
    go_wp2
    go_ret
    exact ⟨rfl, rfl⟩

theorem drain_any (b p t d z : Int) (hz : drainZ b p t d = z) (w : World) : Calls Try.prog 18 #[.agg #[.int .i64 b, .int .i64 p], .int .i64 t, .int .i64 d] w fun e w' => e = .returned (.int .i64 z) ∧ Below w.heap.size w w' := by
  obtain ⟨r, hr⟩ : ∃ r, validB b p = r := ⟨_, rfl⟩
  obtain ⟨r1, hr1⟩ : ∃ r, decide (0 ≤ t ∧ t ≤ 5000000) = r := ⟨_, rfl⟩
  obtain ⟨r2, hr2⟩ : ∃ r, decide (0 ≤ d ∧ d ≤ 5000000) = r := ⟨_, rfl⟩
  have HV := Lib.hid (fun w => valid_any b p r hr w)
  have HP1 := Lib.hid (fun w => poss_any t r1 hr1 w)
  have HP2 := Lib.hid (fun w => poss_any d r2 hr2 w)
  obtain ⟨u, hu⟩ : ∃ u, t35Z b p = u := ⟨_, rfl⟩
  obtain ⟨c, hc⟩ : ∃ c, charZ b p = c := ⟨_, rfl⟩
  have HU := Lib.hid (fun w => t35_eq b p u hu w)
  have HC := Lib.hid (fun w => char_eq b p c hc w)
  have hub := t35_bd b p
  have hcb := char_bd b p
  have hz2 : (if r = true ∧ r1 = true ∧ r2 = true then 2 * u + t + d + 257 * c else 0) = z := by rw [← hz, drainZ, hr, hu, hc, hr1, hr2]
  rw [hu] at hub
  rw [hc] at hcb
  obtain ⟨hub1, hub2⟩ := hub
  obtain ⟨hcb1, hcb2⟩ := hcb
  clear hz hu hc hr
  cases r
  · obtain rfl : z = 0 := by rw [← hz2]; simp
    clear hz2 hr1 hr2
    go_enter Try.func18, Try.ntmps18
    go_wp2_with fail
    refine (HV.out _).mono ?_
    rintro e w1 ⟨rfl, hb1⟩
    go_wp2
    go_ret
    exact ⟨rfl, ext_alloc' (Below.refl _ w) (by simpa using hb1)⟩
  · cases r1
    · obtain rfl : z = 0 := by rw [← hz2]; simp
      clear hz2 hr1 hr2
      go_enter Try.func18, Try.ntmps18
      go_wp2_with fail
      refine (HV.out _).mono ?_
      rintro e w1 ⟨rfl, hb1⟩
      go_wp2_with fail
      refine (HP1.out _).mono ?_
      rintro e w2 ⟨rfl, rfl⟩
      go_wp2
      go_ret
      exact ⟨rfl, ext_alloc' (Below.refl _ w) (by simpa using hb1)⟩
    · cases r2
      · obtain rfl : z = 0 := by rw [← hz2]; simp
        clear hz2 hr1 hr2
        go_enter Try.func18, Try.ntmps18
        go_wp2_with fail
        refine (HV.out _).mono ?_
        rintro e w1 ⟨rfl, hb1⟩
        go_wp2_with fail
        refine (HP1.out _).mono ?_
        rintro e w2 ⟨rfl, rfl⟩
        go_wp2_with fail
        refine (HP2.out _).mono ?_
        rintro e w3 ⟨rfl, rfl⟩
        go_wp2
        go_ret
        exact ⟨rfl, ext_alloc' (Below.refl _ w) (by simpa using hb1)⟩
      · rw [if_pos ⟨rfl, rfl, rfl⟩] at hz2
        obtain ⟨ht1, ht2⟩ : 0 ≤ t ∧ t ≤ 5000000 := by simpa using hr1
        obtain ⟨hd1, hd2⟩ : 0 ≤ d ∧ d ≤ 5000000 := by simpa using hr2
        have HZ := Lib.hid hz2
        clear hz2 hr1 hr2
        go_enter Try.func18, Try.ntmps18
        go_wp2_with fail
        refine (HV.out _).mono ?_
        rintro e w1 ⟨rfl, hb1⟩
        have HB1 := Box.new hb1
        have hbw : Below w.heap.size w w1 := ext_alloc' (Below.refl _ w) (by simpa using hb1)
        clear hb1
        go_wp2_with fail
        refine (HP1.out _).mono ?_
        rintro e w2 ⟨rfl, rfl⟩
        go_wp2_with fail
        refine (HP2.out _).mono ?_
        rintro e w3 ⟨rfl, rfl⟩
        go_wp2_with fail
        have hS : (∀ i, w1.drew.cell? ⟨w.heap.size, i, none⟩ = (#[.int .i64 b, .int .i64 p] : Array Value)[i]?) ∧ True ∧ True := ⟨HB1.1, trivial, trivial⟩
        refine rgs_start (fun w' => (∀ i, w'.cell? ⟨w.heap.size, i, none⟩ = (#[.int .i64 b, .int .i64 p] : Array Value)[i]?) ∧ True ∧ True) (by kernel_rfl) ?_
        refine rgs_t (v := ?_) (some 20) 0 (by kernel_rfl) rfl rfl (by assumption) (.inl ⟨by rfl, fun w' hw => ?_⟩) ?_
        rotate_left
        · obtain ⟨q1, q2, q3⟩ := hw; go_simp <;> with_reducible rfl
        try simp only [Act.put, List.setIfInBounds_toArray, List.set_cons_zero, List.set_cons_succ]
        refine rgs_t (v := ?_) (some 23) 3 (by kernel_rfl) rfl rfl (by assumption) (.inl ⟨by rfl, fun w' hw => ?_⟩) ?_
        rotate_left
        · obtain ⟨q1, q2, q3⟩ := hw; go_simp <;> with_reducible rfl
        try simp only [Act.put, List.setIfInBounds_toArray, List.set_cons_zero, List.set_cons_succ]
        refine rgs_t (v := ?_) (some 25) 5 (by kernel_rfl) rfl rfl (by assumption) (.inl ⟨by rfl, fun w' hw => ?_⟩) ?_
        rotate_left
        · obtain ⟨q1, q2, q3⟩ := hw; go_simp <;> with_reducible rfl
        try simp only [Act.put, List.setIfInBounds_toArray, List.set_cons_zero, List.set_cons_succ]
        refine rgs_t (v := ?_) (some 27) 7 (by kernel_rfl) rfl rfl (by assumption) (.inl ⟨by rfl, fun w' hw => ?_⟩) ?_
        rotate_left
        · obtain ⟨q1, q2, q3⟩ := hw; go_simp <;> with_reducible rfl
        try simp only [Act.put, List.setIfInBounds_toArray, List.set_cons_zero, List.set_cons_succ]
        refine rgs_c 1 (by kernel_rfl) rfl (by rfl) (fun K hK => ?_)
        go_simp
        refine (HU.out _).mono ?_
        rintro e w4 ⟨rfl, hb4⟩
        have hb4' : Below w1.heap.size w1 w4 := (below_drew (Below.refl w1.heap.size w1)).trans hb4
        have hS4 : (∀ i, w4.cell? ⟨w.heap.size, i, none⟩ = (#[.int .i64 b, .int .i64 p] : Array Value)[i]?) ∧ True ∧ True := ⟨(HB1.below hb4').1, trivial, trivial⟩
        refine hK _ _ hS4 ?_
        clear hK K
        try simp only [Act.put, List.setIfInBounds_toArray, List.set_cons_zero, List.set_cons_succ]
        refine rgs_t (v := ?_) (some 22) 2 (by kernel_rfl) rfl rfl (by assumption) (.inl ⟨by rfl, fun w' hw => ?_⟩) ?_
        rotate_left
        · obtain ⟨q1, q2, q3⟩ := hw; go_simp <;> with_reducible rfl
        try simp only [Act.put, List.setIfInBounds_toArray, List.set_cons_zero, List.set_cons_succ]
        refine rgs_t (v := ?_) (some 24) 4 (by kernel_rfl) rfl rfl (by assumption) (.inl ⟨by rfl, fun w' hw => ?_⟩) ?_
        rotate_left
        · obtain ⟨q1, q2, q3⟩ := hw; go_simp <;> with_reducible rfl
        try simp only [Act.put, List.setIfInBounds_toArray, List.set_cons_zero, List.set_cons_succ]
        refine rgs_t (v := ?_) (some 26) 6 (by kernel_rfl) rfl rfl (by assumption) (.inl ⟨by rfl, fun w' hw => ?_⟩) ?_
        rotate_left
        · obtain ⟨q1, q2, q3⟩ := hw; go_simp <;> with_reducible rfl
        try simp only [Act.put, List.setIfInBounds_toArray, List.set_cons_zero, List.set_cons_succ]
        refine rgs_c 8 (by kernel_rfl) rfl (by rfl) (fun K hK => ?_)
        go_simp
        refine (HC.out _).mono ?_
        rintro e w5 ⟨rfl, hb5⟩
        have hb5' := ext_trans hb4' hb5
        have hS5 : (∀ i, w5.cell? ⟨w.heap.size, i, none⟩ = (#[.int .i64 b, .int .i64 p] : Array Value)[i]?) ∧ True ∧ True := ⟨(HB1.below hb5').1, trivial, trivial⟩
        refine hK _ _ hS5 ?_
        clear hK K
        try simp only [Act.put, List.setIfInBounds_toArray, List.set_cons_zero, List.set_cons_succ]
        refine rgs_t (v := ?_) (some 29) 9 (by kernel_rfl) rfl rfl (by assumption) (.inl ⟨by rfl, fun w' hw => ?_⟩) ?_
        rotate_left
        · obtain ⟨q1, q2, q3⟩ := hw; go_simp <;> with_reducible rfl
        try simp only [Act.put, List.setIfInBounds_toArray, List.set_cons_zero, List.set_cons_succ]
        refine rgs_t (v := ?_) (some 30) 10 (by kernel_rfl) rfl rfl (by assumption) (.inl ⟨by rfl, fun w' hw => ?_⟩) ?_
        rotate_left
        · obtain ⟨q1, q2, q3⟩ := hw; go_simp <;> with_reducible rfl
        try simp only [Act.put, List.setIfInBounds_toArray, List.set_cons_zero, List.set_cons_succ]
        refine rgs_t (v := ?_) (some 6) 11 (by kernel_rfl) rfl rfl (by assumption) (.inl ⟨by rfl, fun w' hw => ?_⟩) ?_
        rotate_left
        · obtain ⟨q1, q2, q3⟩ := hw; go_simp <;> with_reducible rfl
        try simp only [Act.put, List.setIfInBounds_toArray, List.set_cons_zero, List.set_cons_succ]
        refine rgs_d (by kernel_rfl) ?_
        go_wp2
        go_ret
        refine ⟨?_, ext_trans hbw hb5'⟩
        have e1 : IntKind.i64.wrap (2 * u) = 2 * u := IntWalk.i64_in _ ⟨by omega, by omega⟩
        have e2 : IntKind.i64.wrap (2 * u + t) = 2 * u + t := IntWalk.i64_in _ ⟨by omega, by omega⟩
        have e3 : IntKind.i64.wrap (2 * u + t + d) = 2 * u + t + d := IntWalk.i64_in _ ⟨by omega, by omega⟩
        have e4 : IntKind.i64.wrap (257 * c) = 257 * c := IntWalk.i64_in _ ⟨by omega, by omega⟩
        have e5 : IntKind.i64.wrap (2 * u + t + d + 257 * c) = 2 * u + t + d + 257 * c := IntWalk.i64_in _ ⟨by omega, by omega⟩
        rw [e1, e2, e3, e4, e5, HZ.out]
        rfl

theorem rdrain_any (b p t d z : Int) (hz : drainZ b p t d = z) (w : World) : Calls Try.prog 19 #[.agg #[.int .i64 b, .int .i64 p], .int .i64 t, .int .i64 d] w fun e w' => e = .returned (.int .i64 z) ∧ Below w.heap.size w w' := by
  obtain ⟨r, hr⟩ : ∃ r, validB b p = r := ⟨_, rfl⟩
  obtain ⟨r1, hr1⟩ : ∃ r, decide (0 ≤ t ∧ t ≤ 5000000) = r := ⟨_, rfl⟩
  obtain ⟨r2, hr2⟩ : ∃ r, decide (0 ≤ d ∧ d ≤ 5000000) = r := ⟨_, rfl⟩
  have HV := Lib.hid (fun w => refValid_any b p r hr w)
  have HP1 := Lib.hid (fun w => ticks_any t r1 hr1 w)
  have HP2 := Lib.hid (fun w => ticks_any d r2 hr2 w)
  obtain ⟨u, hu⟩ : ∃ u, t35Z b p = u := ⟨_, rfl⟩
  obtain ⟨c, hc⟩ : ∃ c, charZ b p = c := ⟨_, rfl⟩
  have HU := Lib.hid (fun w => rt35_eq b p u hu w)
  have HC := Lib.hid (fun w => rchar_eq b p c hc w)
  have hub := t35_bd b p
  have hcb := char_bd b p
  have hz2 : (if r = true ∧ r1 = true ∧ r2 = true then 2 * u + t + d + 257 * c else 0) = z := by rw [← hz, drainZ, hr, hu, hc, hr1, hr2]
  rw [hu] at hub
  rw [hc] at hcb
  obtain ⟨hub1, hub2⟩ := hub
  obtain ⟨hcb1, hcb2⟩ := hcb
  clear hz hu hc hr
  cases r
  · obtain rfl : z = 0 := by rw [← hz2]; simp
    clear hz2 hr1 hr2
    go_enter Try.func19, Try.ntmps19
    go_wp2_with fail
    refine (HV.out _).mono ?_
    rintro e w1 ⟨rfl, hb1⟩
    go_wp2
    go_ret
    exact ⟨rfl, ext_alloc' (Below.refl _ w) (by simpa using hb1)⟩
  · cases r1
    · obtain rfl : z = 0 := by rw [← hz2]; simp
      clear hz2 hr1 hr2
      go_enter Try.func19, Try.ntmps19
      go_wp2_with fail
      refine (HV.out _).mono ?_
      rintro e w1 ⟨rfl, hb1⟩
      go_wp2_with fail
      refine (HP1.out _).mono ?_
      rintro e w2 ⟨rfl, rfl⟩
      go_wp2
      go_ret
      exact ⟨rfl, ext_alloc' (Below.refl _ w) (by simpa using hb1)⟩
    · cases r2
      · obtain rfl : z = 0 := by rw [← hz2]; simp
        clear hz2 hr1 hr2
        go_enter Try.func19, Try.ntmps19
        go_wp2_with fail
        refine (HV.out _).mono ?_
        rintro e w1 ⟨rfl, hb1⟩
        go_wp2_with fail
        refine (HP1.out _).mono ?_
        rintro e w2 ⟨rfl, rfl⟩
        go_wp2_with fail
        refine (HP2.out _).mono ?_
        rintro e w3 ⟨rfl, rfl⟩
        go_wp2
        go_ret
        exact ⟨rfl, ext_alloc' (Below.refl _ w) (by simpa using hb1)⟩
      · rw [if_pos ⟨rfl, rfl, rfl⟩] at hz2
        obtain ⟨ht1, ht2⟩ : 0 ≤ t ∧ t ≤ 5000000 := by simpa using hr1
        obtain ⟨hd1, hd2⟩ : 0 ≤ d ∧ d ≤ 5000000 := by simpa using hr2
        have HZ := Lib.hid hz2
        clear hz2 hr1 hr2
        go_enter Try.func19, Try.ntmps19
        go_wp2_with fail
        refine (HV.out _).mono ?_
        rintro e w1 ⟨rfl, hb1⟩
        have HB1 := Box.new hb1
        have hbw : Below w.heap.size w w1 := ext_alloc' (Below.refl _ w) (by simpa using hb1)
        clear hb1
        go_wp2_with fail
        refine (HP1.out _).mono ?_
        rintro e w2 ⟨rfl, rfl⟩
        go_wp2_with fail
        refine (HP2.out _).mono ?_
        rintro e w3 ⟨rfl, rfl⟩
        go_wp2_with fail
        have hS : (∀ i, w1.drew.cell? ⟨w.heap.size, i, none⟩ = (#[.int .i64 b, .int .i64 p] : Array Value)[i]?) ∧ True ∧ True := ⟨HB1.1, trivial, trivial⟩
        refine rgs_start (fun w' => (∀ i, w'.cell? ⟨w.heap.size, i, none⟩ = (#[.int .i64 b, .int .i64 p] : Array Value)[i]?) ∧ True ∧ True) (by kernel_rfl) ?_
        refine rgs_t (v := ?_) (some 20) 0 (by kernel_rfl) rfl rfl (by assumption) (.inl ⟨by rfl, fun w' hw => ?_⟩) ?_
        rotate_left
        · obtain ⟨q1, q2, q3⟩ := hw; go_simp <;> with_reducible rfl
        try simp only [Act.put, List.setIfInBounds_toArray, List.set_cons_zero, List.set_cons_succ]
        refine rgs_t (v := ?_) (some 23) 3 (by kernel_rfl) rfl rfl (by assumption) (.inl ⟨by rfl, fun w' hw => ?_⟩) ?_
        rotate_left
        · obtain ⟨q1, q2, q3⟩ := hw; go_simp <;> with_reducible rfl
        try simp only [Act.put, List.setIfInBounds_toArray, List.set_cons_zero, List.set_cons_succ]
        refine rgs_t (v := ?_) (some 25) 5 (by kernel_rfl) rfl rfl (by assumption) (.inl ⟨by rfl, fun w' hw => ?_⟩) ?_
        rotate_left
        · obtain ⟨q1, q2, q3⟩ := hw; go_simp <;> with_reducible rfl
        try simp only [Act.put, List.setIfInBounds_toArray, List.set_cons_zero, List.set_cons_succ]
        refine rgs_t (v := ?_) (some 27) 7 (by kernel_rfl) rfl rfl (by assumption) (.inl ⟨by rfl, fun w' hw => ?_⟩) ?_
        rotate_left
        · obtain ⟨q1, q2, q3⟩ := hw; go_simp <;> with_reducible rfl
        try simp only [Act.put, List.setIfInBounds_toArray, List.set_cons_zero, List.set_cons_succ]
        refine rgs_c 1 (by kernel_rfl) rfl (by rfl) (fun K hK => ?_)
        go_simp
        refine (HU.out _).mono ?_
        rintro e w4 ⟨rfl, hb4⟩
        have hb4' : Below w1.heap.size w1 w4 := (below_drew (Below.refl w1.heap.size w1)).trans hb4
        have hS4 : (∀ i, w4.cell? ⟨w.heap.size, i, none⟩ = (#[.int .i64 b, .int .i64 p] : Array Value)[i]?) ∧ True ∧ True := ⟨(HB1.below hb4').1, trivial, trivial⟩
        refine hK _ _ hS4 ?_
        clear hK K
        try simp only [Act.put, List.setIfInBounds_toArray, List.set_cons_zero, List.set_cons_succ]
        refine rgs_t (v := ?_) (some 22) 2 (by kernel_rfl) rfl rfl (by assumption) (.inl ⟨by rfl, fun w' hw => ?_⟩) ?_
        rotate_left
        · obtain ⟨q1, q2, q3⟩ := hw; go_simp <;> with_reducible rfl
        try simp only [Act.put, List.setIfInBounds_toArray, List.set_cons_zero, List.set_cons_succ]
        refine rgs_t (v := ?_) (some 24) 4 (by kernel_rfl) rfl rfl (by assumption) (.inl ⟨by rfl, fun w' hw => ?_⟩) ?_
        rotate_left
        · obtain ⟨q1, q2, q3⟩ := hw; go_simp <;> with_reducible rfl
        try simp only [Act.put, List.setIfInBounds_toArray, List.set_cons_zero, List.set_cons_succ]
        refine rgs_t (v := ?_) (some 26) 6 (by kernel_rfl) rfl rfl (by assumption) (.inl ⟨by rfl, fun w' hw => ?_⟩) ?_
        rotate_left
        · obtain ⟨q1, q2, q3⟩ := hw; go_simp <;> with_reducible rfl
        try simp only [Act.put, List.setIfInBounds_toArray, List.set_cons_zero, List.set_cons_succ]
        refine rgs_c 8 (by kernel_rfl) rfl (by rfl) (fun K hK => ?_)
        go_simp
        refine (HC.out _).mono ?_
        rintro e w5 ⟨rfl, hb5⟩
        have hb5' := ext_trans hb4' hb5
        have hS5 : (∀ i, w5.cell? ⟨w.heap.size, i, none⟩ = (#[.int .i64 b, .int .i64 p] : Array Value)[i]?) ∧ True ∧ True := ⟨(HB1.below hb5').1, trivial, trivial⟩
        refine hK _ _ hS5 ?_
        clear hK K
        try simp only [Act.put, List.setIfInBounds_toArray, List.set_cons_zero, List.set_cons_succ]
        refine rgs_t (v := ?_) (some 29) 9 (by kernel_rfl) rfl rfl (by assumption) (.inl ⟨by rfl, fun w' hw => ?_⟩) ?_
        rotate_left
        · obtain ⟨q1, q2, q3⟩ := hw; go_simp <;> with_reducible rfl
        try simp only [Act.put, List.setIfInBounds_toArray, List.set_cons_zero, List.set_cons_succ]
        refine rgs_t (v := ?_) (some 30) 10 (by kernel_rfl) rfl rfl (by assumption) (.inl ⟨by rfl, fun w' hw => ?_⟩) ?_
        rotate_left
        · obtain ⟨q1, q2, q3⟩ := hw; go_simp <;> with_reducible rfl
        try simp only [Act.put, List.setIfInBounds_toArray, List.set_cons_zero, List.set_cons_succ]
        refine rgs_t (v := ?_) (some 6) 11 (by kernel_rfl) rfl rfl (by assumption) (.inl ⟨by rfl, fun w' hw => ?_⟩) ?_
        rotate_left
        · obtain ⟨q1, q2, q3⟩ := hw; go_simp <;> with_reducible rfl
        try simp only [Act.put, List.setIfInBounds_toArray, List.set_cons_zero, List.set_cons_succ]
        refine rgs_d (by kernel_rfl) ?_
        go_wp2
        go_ret
        refine ⟨?_, ext_trans hbw hb5'⟩
        have e1 : IntKind.i64.wrap (2 * u) = 2 * u := IntWalk.i64_in _ ⟨by omega, by omega⟩
        have e2 : IntKind.i64.wrap (2 * u + t) = 2 * u + t := IntWalk.i64_in _ ⟨by omega, by omega⟩
        have e3 : IntKind.i64.wrap (2 * u + t + d) = 2 * u + t + d := IntWalk.i64_in _ ⟨by omega, by omega⟩
        have e4 : IntKind.i64.wrap (257 * c) = 257 * c := IntWalk.i64_in _ ⟨by omega, by omega⟩
        have e5 : IntKind.i64.wrap (2 * u + t + d + 257 * c) = 2 * u + t + d + 257 * c := IntWalk.i64_in _ ⟨by omega, by omega⟩
        rw [e1, e2, e3, e4, e5, HZ.out]
        rfl
end Go.Proofs.Ytikhlmliefnccaa

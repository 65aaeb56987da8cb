/- Layer 6: contracts of Initial. -/
import Derived.Test.YtikhlmliefnccaaDrn
set_option linter.unusedVariables false
set_option linter.unusedSimpArgs false
namespace Go.Proofs.Ytikhlmliefnccaa
open Go.RowKit

def mxD (t d : Int) (ss : List St) : Int := ss.foldl (fun a s => max a (drainZ s.1 s.2 t d)) 0
def mxF (ss : List St) : Int := ss.foldl (fun a s => max a (frameZ s.1 s.2 256)) 0
def initZ (ss : List St) (t d : Int) : Int := if listB ss = true ∧ decide (0 ≤ t ∧ t ≤ 5000000) = true ∧ decide (0 ≤ d ∧ d ≤ 5000000) = true then mxD t d ss + mxF ss else 0
theorem fold_max {f : St → Int} (m : Int) (hf : ∀ s, 0 ≤ f s ∧ f s ≤ m) (l : List St) (a : Int) (h0 : 0 ≤ a) (h1 : a ≤ m) : 0 ≤ l.foldl (fun a s => max a (f s)) a ∧ l.foldl (fun a s => max a (f s)) a ≤ m := by
  induction l generalizing a with
  | nil => exact ⟨h0, h1⟩
  | cons s l ih => have := hf s; exact ih (max a (f s)) (by omega) (by omega)
theorem max_if (a b : Int) : (if a < b then b else a) = max a b := by split <;> omega
theorem mxD_bd (t d : Int) (ss : List St) : 0 ≤ mxD t d ss ∧ mxD t d ss ≤ 20000000 := fold_max 20000000 (fun s => drain_bd s.1 s.2 t d) ss 0 (by omega) (by omega)
theorem mxF_bd (ss : List St) : 0 ≤ mxF ss ∧ mxF ss ≤ 2346752 := fold_max 2346752 (fun s => frame_bd s.1 s.2 256) ss 0 (by omega) (by omega)
theorem mxD_snoc (t d : Int) (ss : List St) (k : Nat) (h : k < ss.length) : mxD t d (ss.take (k + 1)) = max (mxD t d (ss.take k)) (drainZ ss[k].1 ss[k].2 t d) := by
  rw [List.take_succ_eq_append_getElem h, mxD, List.foldl_append]; rfl
theorem mxF_snoc (ss : List St) (k : Nat) (h : k < ss.length) : mxF (ss.take (k + 1)) = max (mxF (ss.take k)) (frameZ ss[k].1 ss[k].2 256) := by
  rw [List.take_succ_eq_append_getElem h, mxF, List.foldl_append]; rfl

set_option maxRecDepth 100000 in
set_option maxHeartbeats 2000000 in
theorem initial_any (ss : List St) (A : Option Addr) (n c B : Nat) (t d z : Int) (w : World) (hr : Rd w B 2 A n (stCells ss)) (hl : ss.length = n) (hn : n ≤ maxLen) (hz : initZ ss t d = z) :
    Calls Try.prog 20 #[.slice A n c, .int .i64 t, .int .i64 d] w fun e w' => e = .returned (.int .i64 z) ∧ Below w.heap.size w w' := by
  have hr := hr.fits (by decide)
  obtain ⟨r, hrr⟩ : ∃ r, listB ss = r := ⟨_, rfl⟩
  obtain ⟨r1, hr1⟩ : ∃ r, decide (0 ≤ t ∧ t ≤ 5000000) = r := ⟨_, rfl⟩
  obtain ⟨r2, hr2⟩ : ∃ r, decide (0 ≤ d ∧ d ≤ 5000000) = r := ⟨_, rfl⟩
  have HLs := Lib.hid (list_any ss A n c _ r w hr hl hn hrr)
  have HP1 := Lib.hid (fun w => poss_any t r1 hr1 w)
  have HP2 := Lib.hid (fun w => poss_any d r2 hr2 w)
  rw [initZ, hrr, hr1, hr2] at hz
  have HR := Lib.hid hr
  have HL := Lib.hid hl
  unfold maxLen at hn
  clear hr hl hr1 hr2
  cases r
  · obtain rfl : z = 0 := by rw [← hz]; simp
    clear hz hrr
    go_enter Try.func20, Try.ntmps20
    go_wp2_with fail
    refine HLs.out.mono ?_
    rintro e w1 ⟨rfl, hb1⟩
    go_wp2
    go_ret
    exact ⟨rfl, hb1⟩
  · have hl6 : n ≤ 6 := by
      have h2 : decide (1 ≤ ss.length ∧ ss.length ≤ 6) = true := by
        rw [listB, Bool.and_eq_true] at hrr; exact hrr.2
      have := of_decide_eq_true h2
      have := HL.out
      omega
    clear hrr
    cases r1
    · obtain rfl : z = 0 := by rw [← hz]; simp
      clear hz
      go_enter Try.func20, Try.ntmps20
      go_wp2_with fail
      refine HLs.out.mono ?_
      rintro e w1 ⟨rfl, hb1⟩
      go_wp2_with fail
      refine (HP1.out _).mono ?_
      rintro e w2 ⟨rfl, rfl⟩
      go_wp2
      go_ret
      exact ⟨rfl, hb1⟩
    · cases r2
      · obtain rfl : z = 0 := by rw [← hz]; simp
        clear hz
        go_enter Try.func20, Try.ntmps20
        go_wp2_with fail
        refine HLs.out.mono ?_
        rintro e w1 ⟨rfl, hb1⟩
        go_wp2_with fail
        refine (HP1.out _).mono ?_
        rintro e w2 ⟨rfl, rfl⟩
        go_wp2_with fail
        refine (HP2.out _).mono ?_
        rintro e w3 ⟨rfl, rfl⟩
        go_wp2
        go_ret
        exact ⟨rfl, hb1⟩
      · rw [if_pos ⟨rfl, rfl, rfl⟩] at hz
        have HZ := Lib.hid hz
        clear hz
        go_enter Try.func20, Try.ntmps20
        go_wp2_with fail
        refine HLs.out.mono ?_
        rintro e w1 ⟨rfl, hb1⟩
        go_wp2_with fail
        refine (HP1.out _).mono ?_
        rintro e w2 ⟨rfl, rfl⟩
        go_wp2_with fail
        refine (HP2.out _).mono ?_
        rintro e w3 ⟨rfl, rfl⟩
        go_wp2_with fail
        go_loopw [7, 8, 10, 26] (fun a f p i wr => ∃ k : Nat, k ≤ n ∧ i = .int .i64 k ∧ a = .int .i64 (mxD t d (ss.take k)) ∧ f = .int .i64 (mxF (ss.take k)) ∧ Below w.heap.size w wr) (fun _ _ _ i _ => n - (intOf i).toNat)
        case atStart => exact ⟨0, by omega, rfl, rfl, rfl, hb1⟩
        case round =>
          obtain ⟨k, hk, rfl, rfl, rfl, hbw⟩ := hrel
          have hDb := mxD_bd t d (ss.take k)
          have hFb := mxF_bd (ss.take k)
          by_cases hlt : k < n
          · obtain ⟨b, off, rfl, hbl, hk', x0, x1⟩ := st_cells (HR.out.below hbw (Nat.le_refl _)) HL.out k hlt
            have hsD := mxD_snoc t d ss k hk'
            have hsF := mxF_snoc ss k hk'
            obtain ⟨b0, hb0⟩ : ∃ b0, ss[k].1 = b0 := ⟨_, rfl⟩
            obtain ⟨p0, hp0⟩ : ∃ p0, ss[k].2 = p0 := ⟨_, rfl⟩
            rw [hb0] at x0 hsD hsF
            rw [hp0] at x1 hsD hsF
            obtain ⟨zd, hzd⟩ : ∃ zd, drainZ b0 p0 t d = zd := ⟨_, rfl⟩
            obtain ⟨zf, hzf⟩ : ∃ zf, frameZ b0 p0 256 = zf := ⟨_, rfl⟩
            have HDR := Lib.hid (fun w => drain_any b0 p0 t d zd hzd w)
            have HFR := Lib.hid (fun w => frame_eq b0 p0 256 zf hzf w)
            have hzdb := drain_bd b0 p0 t d
            have hzfb := frame_bd b0 p0 256
            rw [hzd] at hsD hzdb
            rw [hzf] at hsF hzfb
            obtain ⟨a0, ha0⟩ : ∃ a0, mxD t d (ss.take k) = a0 := ⟨_, rfl⟩
            obtain ⟨f0, hf0⟩ : ∃ f0, mxF (ss.take k) = f0 := ⟨_, rfl⟩
            rw [ha0] at hsD hDb ⊢
            rw [hf0] at hsF hFb ⊢
            have HSD := Lib.hid hsD
            have HSF := Lib.hid hsF
            clear hb0 hp0 hsD hsF ha0 hf0 hzd hzf
            go_wp2_with fail
            refine (HDR.out _).mono ?_
            rintro e w4 ⟨rfl, hb4⟩
            obtain ⟨q0, z0, l0⟩ := Box.new hb4
            have y0 : w4.cell? ⟨wr.heap.size, 0, none⟩ = some (.int .i64 b0) := q0 0
            have y1 : w4.cell? ⟨wr.heap.size, 1, none⟩ = some (.int .i64 p0) := q0 1
            have hbw4 := ext_alloc' hbw (by simpa using hb4)
            clear q0 hb4 x0 x1
            by_cases h1 : a0 < zd
            all_goals
              by_cases h2 : f0 < zf
              all_goals
                go_wp2_with fail
                refine (HFR.out _).mono ?_
                rintro e w5 ⟨rfl, hb5⟩
                have hbw5 := ext_trans hbw4 hb5
                clear hb5
                go_wp2
                exact ⟨⟨k + 1, by omega, by go_num, by rw [HSD.out]; first | (rw [show max a0 zd = zd by omega]) | (rw [show max a0 zd = a0 by omega]), by rw [HSF.out]; first | (rw [show max f0 zf = zf by omega]) | (rw [show max f0 zf = f0 by omega]), hbw5⟩, by simp [intOf]; omega⟩
          · obtain rfl : k = n := by omega
            have hfin : mxD t d (ss.take k) + mxF (ss.take k) = z := by rw [List.take_of_length_le (by rw [HL.out]; omega)]; exact HZ.out
            obtain ⟨a0, ha0⟩ : ∃ a0, mxD t d (ss.take k) = a0 := ⟨_, rfl⟩
            obtain ⟨f0, hf0⟩ : ∃ f0, mxF (ss.take k) = f0 := ⟨_, rfl⟩
            rw [ha0] at hfin hDb ⊢
            rw [hf0] at hfin hFb ⊢
            have HF := Lib.hid hfin
            clear ha0 hf0 hfin
            go_wp2
            go_ret
            exact ⟨by rw [← HF.out]; rfl, hbw⟩

set_option maxRecDepth 100000 in
set_option maxHeartbeats 2000000 in
theorem rinitial_any (ss : List St) (A : Option Addr) (n c B : Nat) (t d z : Int) (w : World) (hr : Rd w B 2 A n (stCells ss)) (hl : ss.length = n) (hn : n ≤ maxLen) (hz : initZ ss t d = z) :
    Calls Try.prog 21 #[.slice A n c, .int .i64 t, .int .i64 d] w fun e w' => e = .returned (.int .i64 z) ∧ Below w.heap.size w w' := by
  have hr := hr.fits (by decide)
  obtain ⟨r, hrr⟩ : ∃ r, listB ss = r := ⟨_, rfl⟩
  obtain ⟨r1, hr1⟩ : ∃ r, decide (0 ≤ t ∧ t ≤ 5000000) = r := ⟨_, rfl⟩
  obtain ⟨r2, hr2⟩ : ∃ r, decide (0 ≤ d ∧ d ≤ 5000000) = r := ⟨_, rfl⟩
  have HLs := Lib.hid (rlist_any ss A n c _ r w hr hl hn hrr)
  have HP1 := Lib.hid (fun w => ticks_any t r1 hr1 w)
  have HP2 := Lib.hid (fun w => ticks_any d r2 hr2 w)
  rw [initZ, hrr, hr1, hr2] at hz
  have HR := Lib.hid hr
  have HL := Lib.hid hl
  unfold maxLen at hn
  clear hr hl hr1 hr2
  cases r
  · obtain rfl : z = 0 := by rw [← hz]; simp
    clear hz hrr
    go_enter Try.func21, Try.ntmps21
    go_wp2_with fail
    refine HLs.out.mono ?_
    rintro e w1 ⟨rfl, hb1⟩
    go_wp2
    go_ret
    exact ⟨rfl, hb1⟩
  · have hl6 : n ≤ 6 := by
      have h2 : decide (1 ≤ ss.length ∧ ss.length ≤ 6) = true := by
        rw [listB, Bool.and_eq_true] at hrr; exact hrr.2
      have := of_decide_eq_true h2
      have := HL.out
      omega
    clear hrr
    cases r1
    · obtain rfl : z = 0 := by rw [← hz]; simp
      clear hz
      go_enter Try.func21, Try.ntmps21
      go_wp2_with fail
      refine HLs.out.mono ?_
      rintro e w1 ⟨rfl, hb1⟩
      go_wp2_with fail
      refine (HP1.out _).mono ?_
      rintro e w2 ⟨rfl, rfl⟩
      go_wp2
      go_ret
      exact ⟨rfl, hb1⟩
    · cases r2
      · obtain rfl : z = 0 := by rw [← hz]; simp
        clear hz
        go_enter Try.func21, Try.ntmps21
        go_wp2_with fail
        refine HLs.out.mono ?_
        rintro e w1 ⟨rfl, hb1⟩
        go_wp2_with fail
        refine (HP1.out _).mono ?_
        rintro e w2 ⟨rfl, rfl⟩
        go_wp2_with fail
        refine (HP2.out _).mono ?_
        rintro e w3 ⟨rfl, rfl⟩
        go_wp2
        go_ret
        exact ⟨rfl, hb1⟩
      · rw [if_pos ⟨rfl, rfl, rfl⟩] at hz
        have HZ := Lib.hid hz
        clear hz
        go_enter Try.func21, Try.ntmps21
        go_wp2_with fail
        refine HLs.out.mono ?_
        rintro e w1 ⟨rfl, hb1⟩
        go_wp2_with fail
        refine (HP1.out _).mono ?_
        rintro e w2 ⟨rfl, rfl⟩
        go_wp2_with fail
        refine (HP2.out _).mono ?_
        rintro e w3 ⟨rfl, rfl⟩
        go_wp2_with fail
        go_loopw [7, 8, 9] (fun a f i wr => ∃ k : Nat, k ≤ n ∧ i = .int .i64 k ∧ a = .int .i64 (mxD t d (ss.take k)) ∧ f = .int .i64 (mxF (ss.take k)) ∧ Below w.heap.size w wr) (fun _ _ i _ => n - (intOf i).toNat)
        case atStart => exact ⟨0, by omega, rfl, rfl, rfl, hb1⟩
        case round =>
          obtain ⟨k, hk, rfl, rfl, rfl, hbw⟩ := hrel
          have hDb := mxD_bd t d (ss.take k)
          have hFb := mxF_bd (ss.take k)
          by_cases hlt : k < n
          · obtain ⟨b, off, rfl, hbl, hk', x0, x1⟩ := st_cells (HR.out.below hbw (Nat.le_refl _)) HL.out k hlt
            have hsD := mxD_snoc t d ss k hk'
            have hsF := mxF_snoc ss k hk'
            obtain ⟨b0, hb0⟩ : ∃ b0, ss[k].1 = b0 := ⟨_, rfl⟩
            obtain ⟨p0, hp0⟩ : ∃ p0, ss[k].2 = p0 := ⟨_, rfl⟩
            rw [hb0] at x0 hsD hsF
            rw [hp0] at x1 hsD hsF
            obtain ⟨zd, hzd⟩ : ∃ zd, drainZ b0 p0 t d = zd := ⟨_, rfl⟩
            obtain ⟨zf, hzf⟩ : ∃ zf, frameZ b0 p0 256 = zf := ⟨_, rfl⟩
            have HDR := Lib.hid (fun w => rdrain_any b0 p0 t d zd hzd w)
            have HFR := Lib.hid (fun w => rframe_eq b0 p0 256 zf hzf w)
            have hzdb := drain_bd b0 p0 t d
            have hzfb := frame_bd b0 p0 256
            rw [hzd] at hsD hzdb
            rw [hzf] at hsF hzfb
            obtain ⟨a0, ha0⟩ : ∃ a0, mxD t d (ss.take k) = a0 := ⟨_, rfl⟩
            obtain ⟨f0, hf0⟩ : ∃ f0, mxF (ss.take k) = f0 := ⟨_, rfl⟩
            rw [ha0] at hsD hDb ⊢
            rw [hf0] at hsF hFb ⊢
            have HSD := Lib.hid hsD
            have HSF := Lib.hid hsF
            clear hb0 hp0 hsD hsF ha0 hf0 hzd hzf
            have hbs : b < wr.heap.size := Nat.lt_of_lt_of_le hbl hbw.size
            go_wp2_with fail
            have hS : wr.drew.cell? ⟨b, off + k * 2, none⟩ = some (.int .i64 b0) ∧ wr.drew.cell? ⟨b, off + k * 2 + 1, none⟩ = some (.int .i64 p0) ∧ True := ⟨x0, x1, trivial⟩
            refine rgs_start (fun w' => w'.cell? ⟨b, off + k * 2, none⟩ = some (.int .i64 b0) ∧ w'.cell? ⟨b, off + k * 2 + 1, none⟩ = some (.int .i64 p0) ∧ True) (by kernel_rfl) ?_
            refine rgs_t (v := ?_) (some 29) 0 (by kernel_rfl) rfl rfl (by assumption) (.inl ⟨by rfl, fun w' hw => ?_⟩) ?_
            rotate_left
            · obtain ⟨q1, q2, q3⟩ := hw; go_simp <;> with_reducible rfl
            try simp only [Act.put, List.setIfInBounds_toArray, List.set_cons_zero, List.set_cons_succ]
            refine rgs_t (v := ?_) (some 30) 1 (by kernel_rfl) rfl rfl (by assumption) (.inl ⟨by rfl, fun w' hw => ?_⟩) ?_
            rotate_left
            · obtain ⟨q1, q2, q3⟩ := hw; go_simp <;> with_reducible rfl
            try simp only [Act.put, List.setIfInBounds_toArray, List.set_cons_zero, List.set_cons_succ]
            refine rgs_t (v := ?_) (some 31) 2 (by kernel_rfl) rfl rfl (by assumption) (.inl ⟨by rfl, fun w' hw => ?_⟩) ?_
            rotate_left
            · obtain ⟨q1, q2, q3⟩ := hw; go_simp <;> with_reducible rfl
            try simp only [Act.put, List.setIfInBounds_toArray, List.set_cons_zero, List.set_cons_succ]
            refine rgs_t (v := ?_) (some 32) 3 (by kernel_rfl) rfl rfl (by assumption) (.inl ⟨by rfl, fun w' hw => ?_⟩) ?_
            rotate_left
            · obtain ⟨q1, q2, q3⟩ := hw; go_simp <;> with_reducible rfl
            try simp only [Act.put, List.setIfInBounds_toArray, List.set_cons_zero, List.set_cons_succ]
            refine rgs_t (v := ?_) (some 33) 4 (by kernel_rfl) rfl rfl (by assumption) (.inl ⟨by rfl, fun w' hw => ?_⟩) ?_
            rotate_left
            · obtain ⟨q1, q2, q3⟩ := hw; go_simp <;> with_reducible rfl
            try simp only [Act.put, List.setIfInBounds_toArray, List.set_cons_zero, List.set_cons_succ]
            refine rgs_t (v := ?_) (some 34) 5 (by kernel_rfl) rfl rfl (by assumption) (.inl ⟨by rfl, fun w' hw => ?_⟩) ?_
            rotate_left
            · obtain ⟨q1, q2, q3⟩ := hw; go_simp <;> with_reducible rfl
            try simp only [Act.put, List.setIfInBounds_toArray, List.set_cons_zero, List.set_cons_succ]
            refine rgs_t (v := ?_) (some 35) 6 (by kernel_rfl) rfl rfl (by assumption) (.inl ⟨by rfl, fun w' hw => ?_⟩) ?_
            rotate_left
            · obtain ⟨q1, q2, q3⟩ := hw; go_simp <;> with_reducible rfl
            try simp only [Act.put, List.setIfInBounds_toArray, List.set_cons_zero, List.set_cons_succ]
            refine rgs_t (v := ?_) (some 38) 9 (by kernel_rfl) rfl rfl (by assumption) (.inl ⟨by rfl, fun w' hw => ?_⟩) ?_
            rotate_left
            · obtain ⟨q1, q2, q3⟩ := hw; go_simp <;> with_reducible rfl
            try simp only [Act.put, List.setIfInBounds_toArray, List.set_cons_zero, List.set_cons_succ]
            refine rgs_t (v := ?_) (some 39) 10 (by kernel_rfl) rfl rfl (by assumption) (.inl ⟨by rfl, fun w' hw => ?_⟩) ?_
            rotate_left
            · obtain ⟨q1, q2, q3⟩ := hw; go_simp <;> with_reducible rfl
            try simp only [Act.put, List.setIfInBounds_toArray, List.set_cons_zero, List.set_cons_succ]
            refine rgs_t (v := ?_) (some 40) 11 (by kernel_rfl) rfl rfl (by assumption) (.inl ⟨by rfl, fun w' hw => ?_⟩) ?_
            rotate_left
            · obtain ⟨q1, q2, q3⟩ := hw; go_simp <;> with_reducible rfl
            try simp only [Act.put, List.setIfInBounds_toArray, List.set_cons_zero, List.set_cons_succ]
            refine rgs_t (v := ?_) (some 41) 12 (by kernel_rfl) rfl rfl (by assumption) (.inl ⟨by rfl, fun w' hw => ?_⟩) ?_
            rotate_left
            · obtain ⟨q1, q2, q3⟩ := hw; go_simp <;> with_reducible rfl
            try simp only [Act.put, List.setIfInBounds_toArray, List.set_cons_zero, List.set_cons_succ]
            refine rgs_t (v := ?_) (some 42) 13 (by kernel_rfl) rfl rfl (by assumption) (.inl ⟨by rfl, fun w' hw => ?_⟩) ?_
            rotate_left
            · obtain ⟨q1, q2, q3⟩ := hw; go_simp <;> with_reducible rfl
            try simp only [Act.put, List.setIfInBounds_toArray, List.set_cons_zero, List.set_cons_succ]
            refine rgs_c 7 (by kernel_rfl) rfl (by rfl) (fun K hK => ?_)
            go_simp
            refine (HDR.out _).mono ?_
            rintro e w4 ⟨rfl, hb4⟩
            have hb4' : Below wr.heap.size wr w4 := (below_drew (Below.refl wr.heap.size wr)).trans hb4
            have hS4 : w4.cell? ⟨b, off + k * 2, none⟩ = some (.int .i64 b0) ∧ w4.cell? ⟨b, off + k * 2 + 1, none⟩ = some (.int .i64 p0) ∧ True := ⟨(hb4'.cell hbs).trans x0, (hb4'.cell hbs).trans x1, trivial⟩
            refine hK _ _ hS4 ?_
            clear hK K
            try simp only [Act.put, List.setIfInBounds_toArray, List.set_cons_zero, List.set_cons_succ]
            refine rgs_t (v := ?_) (some 37) 8 (by kernel_rfl) rfl rfl (by assumption) (.inl ⟨by rfl, fun w' hw => ?_⟩) ?_
            rotate_left
            · obtain ⟨q1, q2, q3⟩ := hw; go_simp <;> with_reducible rfl
            try simp only [Act.put, List.setIfInBounds_toArray, List.set_cons_zero, List.set_cons_succ]
            refine rgs_c 14 (by kernel_rfl) rfl (by rfl) (fun K hK => ?_)
            go_simp
            refine (HFR.out _).mono ?_
            rintro e w5 ⟨rfl, hb5⟩
            have hb5' := ext_trans hb4' hb5
            have hS5 : w5.cell? ⟨b, off + k * 2, none⟩ = some (.int .i64 b0) ∧ w5.cell? ⟨b, off + k * 2 + 1, none⟩ = some (.int .i64 p0) ∧ True := ⟨(hb5'.cell hbs).trans x0, (hb5'.cell hbs).trans x1, trivial⟩
            refine hK _ _ hS5 ?_
            clear hK K
            try simp only [Act.put, List.setIfInBounds_toArray, List.set_cons_zero, List.set_cons_succ]
            refine rgs_t (v := ?_) (some 44) 15 (by kernel_rfl) rfl rfl (by assumption) (.inl ⟨by rfl, fun w' hw => ?_⟩) ?_
            rotate_left
            · obtain ⟨q1, q2, q3⟩ := hw; go_simp <;> with_reducible rfl
            try simp only [Act.put, List.setIfInBounds_toArray, List.set_cons_zero, List.set_cons_succ]
            refine rgs_t (v := ?_) (some 7) 16 (by kernel_rfl) rfl rfl (by assumption) (.inl ⟨by rfl, fun w' hw => ?_⟩) ?_
            rotate_left
            · obtain ⟨q1, q2, q3⟩ := hw; go_simp <;> with_reducible rfl
            try simp only [Act.put, List.setIfInBounds_toArray, List.set_cons_zero, List.set_cons_succ]
            refine rgs_t (v := ?_) (some 8) 17 (by kernel_rfl) rfl rfl (by assumption) (.inl ⟨by rfl, fun w' hw => ?_⟩) ?_
            rotate_left
            · obtain ⟨q1, q2, q3⟩ := hw; go_simp <;> with_reducible rfl
            try simp only [Act.put, List.setIfInBounds_toArray, List.set_cons_zero, List.set_cons_succ]
            refine rgs_d (by kernel_rfl) ?_
            have hbw5 := ext_trans hbw hb5'
            clear hb5' hb4' hb4 hb5 hS hS4 hS5 x0 x1
            go_wp2
            exact ⟨⟨k + 1, by omega, by go_num, by rw [HSD.out, max_if], by rw [HSF.out, max_if], hbw5⟩, by simp [intOf]; omega⟩
          · obtain rfl : k = n := by omega
            have hfin : mxD t d (ss.take k) + mxF (ss.take k) = z := by rw [List.take_of_length_le (by rw [HL.out]; omega)]; exact HZ.out
            obtain ⟨a0, ha0⟩ : ∃ a0, mxD t d (ss.take k) = a0 := ⟨_, rfl⟩
            obtain ⟨f0, hf0⟩ : ∃ f0, mxF (ss.take k) = f0 := ⟨_, rfl⟩
            rw [ha0] at hfin hDb ⊢
            rw [hf0] at hfin hFb ⊢
            have HF := Lib.hid hfin
            clear ha0 hf0 hfin
            go_wp2
            go_ret
            exact ⟨by rw [← HF.out]; rfl, hbw⟩
end Go.Proofs.Ytikhlmliefnccaa

/- The reference's Slave: the walk. -/
import Derived.Test.YtipcnpnfdoainaaSlC
set_option linter.unusedVariables false
set_option linter.unusedSimpArgs false
namespace Go.Proofs.Ytipcnpnfdoainaa
open Go.RowKit

theorem slB_false {S : Sl} (h : ¬ (headB S = true ∧ (∀ k, k < 4 → tbOk k (S.tb k) = true) ∧ midB S = true ∧ (S.lv = 0 ∨ objB S = true))) : slB S = false := by
  rw [Bool.eq_false_iff]
  exact fun hh => h (slB_of hh)
theorem slB_true {S : Sl} (h1 : headB S = true) (h2 : ∀ k, k < 4 → tbOk k (S.tb k) = true) (h3 : midB S = true) (h4 : S.lv = 0 ∨ objB S = true) : slB S = true := by
  simp only [slB, h1, h3, Bool.true_and, Bool.and_true, Bool.and_eq_true, all4_iff, decide_eq_true_eq, Bool.or_eq_true]
  exact ⟨h2, h4⟩
set_option maxRecDepth 100000 in
set_option maxHeartbeats 16000000 in
theorem slave_bad (S : Sl) (w : World) (hok : S.ok w w.heap.size) (hs1 : ∀ k, k < 4 → (S.tb k).n ≤ 40) (hs2 : S.on_ ≤ 40) (hs3 : S.sn ≤ 80) (r : Bool) (hr : slB S = r) (hbad : ¬ (headB S = true ∧ ∀ j, j < 4 → tbOk j (S.tb j) = true)) :
    Calls Try.prog 19 #[slV S] w fun e w' => e = .returned (.bool r) ∧ Below w.heap.size w w' := by
  obtain ⟨v, hv⟩ : ∃ v, validB S.b S.p = v := ⟨_, rfl⟩
  have HV := Lib.hid (fun W => refValid_any S.b S.p v hv W)
  have HVV := Lib.hid hv
  have HR := Lib.hid hr
  have HBAD := Lib.hid hbad
  have HOK := Lib.hid hok
  have HS1 := Lib.hid hs1
  have hbx := Box.alloc_ (w := w) (cs := slCells S) (e := 54)
  have hb0 : Below w.heap.size w (w.alloc (.cells (slCells S) 54)) := (Below.refl _ _).alloc (Nat.le_refl _) _
  obtain ⟨g, hg⟩ : ∃ g, w.heap.size = g := ⟨_, rfl⟩
  obtain ⟨W1, hW1⟩ : ∃ W, w.alloc (.cells (slCells S) 54) = W := ⟨_, rfl⟩
  rw [hW1] at hb0
  rw [hW1, hg] at hbx
  have HB0 := Lib.hid hb0
  have HBX := Lib.hid hbx
  have HW1 := Lib.hid hW1
  have HG := Lib.hid hg
  clear hv hr hbad hok hs1 hbx hb0 hW1 hg
  go_enter Try.func19, Try.ntmps19
  go_upto_region 1 with fail
  try rw [HW1.out]
  try rw [HG.out]
  obtain ⟨q, z, lx⟩ := HBX.out
  unfold slCells at q
  go_wp2_with fail
  refine (HV.out _).mono ?_
  rintro e w1 ⟨rfl, hb1⟩
  have HB1 := Lib.hid (ext_trans HB0.out hb1)
  have HBX1 := Lib.hid (HBX.out.below hb1)
  clear hb1 q z lx HBX HB0
  obtain ⟨q, z, lx⟩ := HBX1.out
  unfold slCells at q
  cases v
  · have HZ := Lib.hid (show r = false by rw [← HR.out]; exact slB_false (fun h => by have h1 := h.1; simp only [headB, HVV.out, Bool.false_and] at h1; cases h1))
    go_wp2
    go_ret
    exact ⟨by rw [HZ.out]; rfl, HB1.out⟩
  · have hfin : ¬ (1 ≤ S.u ∧ S.u ≤ 247 ∧ 0 ≤ S.lv ∧ S.lv ≤ 3) → r = false := fun hn => by
      rw [← HR.out]; exact slB_false (fun h => by have h1 := h.1; simp only [headB, HVV.out, Bool.true_and, decide_eq_true_eq] at h1; exact hn h1)
    have HFIN := Lib.hid hfin
    clear hfin
    by_cases h1 : S.u < 1
    · have HZ := Lib.hid (HFIN.out (by omega))
      have d1 : decide (S.u < 1) = true := by simpa using h1
      go_wp2
      go_ret
      exact ⟨by rw [HZ.out]; rfl, HB1.out⟩
    have d1 : decide (S.u < 1) = false := by simp; omega
    by_cases h2 : 247 < S.u
    · have HZ := Lib.hid (HFIN.out (by omega))
      have d2 : decide (247 < S.u) = true := by simpa using h2
      go_wp2
      go_ret
      exact ⟨by rw [HZ.out]; rfl, HB1.out⟩
    have d2 : decide (247 < S.u) = false := by simp; omega
    by_cases h3 : S.lv < 0
    · have HZ := Lib.hid (HFIN.out (by omega))
      have d3 : decide (S.lv < 0) = true := by simpa using h3
      go_wp2
      go_ret
      exact ⟨by rw [HZ.out]; rfl, HB1.out⟩
    have d3 : decide (S.lv < 0) = false := by simp; omega
    by_cases h4 : 3 < S.lv
    · have HZ := Lib.hid (HFIN.out (by omega))
      have d4 : decide (3 < S.lv) = true := by simpa using h4
      go_wp2
      go_ret
      exact ⟨by rw [HZ.out]; rfl, HB1.out⟩
    have d4 : decide (3 < S.lv) = false := by simp; omega
    have HHD := Lib.hid (show headB S = true by simp only [headB, HVV.out, Bool.true_and, decide_eq_true_eq]; omega)
    have HLV := Lib.hid (show 0 ≤ S.lv ∧ S.lv ≤ 3 by omega)
    clear h1 h2 h3 h4 HFIN
    go_wp2_with fail
    clear d1 d2 d3 d4 q z lx
    go_loopw [3, 4] (fun iv u4 x => ∃ k : Nat, k ≤ 4 ∧ iv = .int .i64 k ∧ (∀ j, j < k → tbOk j (S.tb j) = true) ∧ Box x g (slCells S) ∧ Below w.heap.size w x) (fun iv _ _ => 4 - (intOf iv).toNat)
    case atStart => exact ⟨0, by omega, rfl, (fun j hj => by omega), HBX1.out, HB1.out⟩
    case round =>
      obtain ⟨k, hk, rfl, hall, hbx, hbw⟩ := hrel
      have HALL := Lib.hid hall
      have HB2 := Lib.hid hbx
      have HW2 := Lib.hid hbw
      clear hall hbx hbw
      by_cases hlt : k < 4
      · have HLT := Lib.hid hlt
        have hn40 := HS1.out k hlt
        have hrk := HOK.out.1 k hlt
        obtain ⟨t0, t1, t2⟩ := sl_tb HB2.out k hlt
        have hgl := HB2.out.2.2
        have hfz := HB2.out.2.1
        obtain ⟨T, hT⟩ : ∃ T, S.tb k = T := ⟨_, rfl⟩
        rw [hT] at t0 t1 t2 hn40 hrk
        obtain ⟨sup, At, n, c, rs, most⟩ := T
        dsimp only at t0 t1 t2 hn40 hrk
        have hfin : tbOk k ⟨sup, At, n, c, rs, most⟩ = false → r = false := fun hn => by
          rw [← HR.out]; exact slB_false (fun h => by have h1 := h.2.1 k hlt; rw [hT, hn] at h1; cases h1)
        have HFIN := Lib.hid hfin
        have hok : tbOk k ⟨sup, At, n, c, rs, most⟩ = true → ∀ j, j < k + 1 → tbOk j (S.tb j) = true := fun hn j hj => by
          rcases Nat.lt_or_ge j k with h | h
          · exact HALL.out j h
          · rw [show j = k by omega, hT]; exact hn
        have HNX := Lib.hid hok
        have HRK := Lib.hid hrk
        clear hfin hok hT hrk
        go_upto_region 7 with fail
        have kw : IntKind.i64.wrap ((k : Int) + 1) = (k : Int) + 1 := IntWalk.i64_in _ ⟨by omega, by omega⟩
        have HBT := Lib.hid (Box.alloc_ (w := wr) (cs := #[.bool sup, .slice At n c, .int .i64 most]) (e := 51))
        have HB3 := Lib.hid (HB2.out.alloc' (.cells #[.bool sup, .slice At n c, .int .i64 most] 51))
        have HBA := Lib.hid (ext_alloc HW2.out (.cells #[.bool sup, .slice At n c, .int .i64 most] 51))
        have HTF := Lib.hid (fun (W : World) (h : Box W wr.heap.size #[.bool sup, .slice At n c, .int .i64 most]) => show (W.cell? ⟨wr.heap.size, 0, none⟩ = some (.bool sup) ∧ W.cell? ⟨wr.heap.size, 1, none⟩ = some (.slice At n c) ∧ W.cell? ⟨wr.heap.size, 2, none⟩ = some (.int .i64 most)) from ⟨h.1 0, h.1 1, h.1 2⟩)
        obtain ⟨qt, zt, lt⟩ := HBT.out
        clear t0 t1 t2 hfz hgl
        cases sup
        · by_cases h1 : n = 0
          · subst h1
            by_cases h2 : most = 0
            · subst h2
              have HN2 := Lib.hid (HNX.out (by simp [tbOk]))
              go_upto_region 9 with fail
              have HBR := Lib.hid (below_drew HBA.out)
              have HTD := Lib.hid HBT.out.drew
              have HBD := Lib.hid HB3.out.drew
              have hS0 := HTF.out _ HTD.out
              refine rgs_start (fun w' => w'.cell? ⟨wr.heap.size, 0, none⟩ = some (.bool false) ∧ w'.cell? ⟨wr.heap.size, 1, none⟩ = some (.slice At 0 c) ∧ w'.cell? ⟨wr.heap.size, 2, none⟩ = some (.int .i64 0)) (by kernel_rfl) ?_
              refine rgs_t (v := ?_) (some 53) 0 (by kernel_rfl) rfl rfl (by assumption) (.inl ⟨by rfl, fun w' hw => ?_⟩) ?_
              rotate_left
              · obtain ⟨q1, q2, q3⟩ := hw; go_simp <;> with_reducible rfl
              try simp only [Act.put, List.setIfInBounds_toArray, List.set_cons_zero, List.set_cons_succ]
              refine rgs_t (v := ?_) (some 54) 1 (by kernel_rfl) rfl rfl (by assumption) (.inl ⟨by rfl, fun w' hw => ?_⟩) ?_
              rotate_left
              · obtain ⟨q1, q2, q3⟩ := hw; go_simp <;> with_reducible rfl
              try simp only [Act.put, List.setIfInBounds_toArray, List.set_cons_zero, List.set_cons_succ]
              refine rgs_t (v := ?_) (some 55) 2 (by kernel_rfl) rfl rfl (by assumption) (.inl ⟨by rfl, fun w' hw => ?_⟩) ?_
              rotate_left
              · obtain ⟨q1, q2, q3⟩ := hw; go_simp <;> with_reducible rfl
              try simp only [Act.put, List.setIfInBounds_toArray, List.set_cons_zero, List.set_cons_succ]
              refine rgs_t (some 56) 3 (by kernel_rfl) rfl rfl (by assumption) (.inr ⟨by rfl, rfl⟩) ?_
              try simp only [Act.put, List.setIfInBounds_toArray, List.set_cons_zero, List.set_cons_succ]
              refine rgs_t (some 57) 4 (by kernel_rfl) rfl rfl (by assumption) (.inr ⟨by rfl, rfl⟩) ?_
              try simp only [Act.put, List.setIfInBounds_toArray, List.set_cons_zero, List.set_cons_succ]
              refine rgs_t (some 58) 5 (by kernel_rfl) rfl rfl (by assumption) (.inr ⟨by rfl, rfl⟩) ?_
              try simp only [Act.put, List.setIfInBounds_toArray, List.set_cons_zero, List.set_cons_succ]
              refine rgs_t (some 59) 6 (by kernel_rfl) rfl rfl (by assumption) (.inr ⟨by rfl, rfl⟩) ?_
              try simp only [Act.put, List.setIfInBounds_toArray, List.set_cons_zero, List.set_cons_succ]
              refine rgs_t (some 60) 7 (by kernel_rfl) rfl rfl (by assumption) (.inr ⟨by rfl, rfl⟩) ?_
              try simp only [Act.put, List.setIfInBounds_toArray, List.set_cons_zero, List.set_cons_succ]
              refine rgs_t (some 61) 8 (by kernel_rfl) rfl rfl (by assumption) (.inr ⟨by rfl, rfl⟩) ?_
              try simp only [Act.put, List.setIfInBounds_toArray, List.set_cons_zero, List.set_cons_succ]
              refine rgs_t (some 62) 9 (by kernel_rfl) rfl rfl (by assumption) (.inr ⟨by rfl, rfl⟩) ?_
              try simp only [Act.put, List.setIfInBounds_toArray, List.set_cons_zero, List.set_cons_succ]
              refine rgs_t (some 63) 10 (by kernel_rfl) rfl rfl (by assumption) (.inr ⟨by rfl, rfl⟩) ?_
              try simp only [Act.put, List.setIfInBounds_toArray, List.set_cons_zero, List.set_cons_succ]
              refine rgs_t (some 64) 11 (by kernel_rfl) rfl rfl (by assumption) (.inr ⟨by rfl, rfl⟩) ?_
              try simp only [Act.put, List.setIfInBounds_toArray, List.set_cons_zero, List.set_cons_succ]
              refine rgs_t (some 65) 12 (by kernel_rfl) rfl rfl (by assumption) (.inr ⟨by rfl, rfl⟩) ?_
              try simp only [Act.put, List.setIfInBounds_toArray, List.set_cons_zero, List.set_cons_succ]
              refine rgs_t (some 66) 13 (by kernel_rfl) rfl rfl (by assumption) (.inr ⟨by rfl, rfl⟩) ?_
              try simp only [Act.put, List.setIfInBounds_toArray, List.set_cons_zero, List.set_cons_succ]
              refine rgs_t (some 67) 14 (by kernel_rfl) rfl rfl (by assumption) (.inr ⟨by rfl, rfl⟩) ?_
              try simp only [Act.put, List.setIfInBounds_toArray, List.set_cons_zero, List.set_cons_succ]
              refine rgs_t (some 68) 15 (by kernel_rfl) rfl rfl (by assumption) (.inr ⟨by rfl, rfl⟩) ?_
              try simp only [Act.put, List.setIfInBounds_toArray, List.set_cons_zero, List.set_cons_succ]
              refine rgs_t (some 69) 16 (by kernel_rfl) rfl rfl (by assumption) (.inr ⟨by rfl, rfl⟩) ?_
              try simp only [Act.put, List.setIfInBounds_toArray, List.set_cons_zero, List.set_cons_succ]
              refine rgs_t (some 70) 17 (by kernel_rfl) rfl rfl (by assumption) (.inr ⟨by rfl, rfl⟩) ?_
              try simp only [Act.put, List.setIfInBounds_toArray, List.set_cons_zero, List.set_cons_succ]
              refine rgs_t (some 71) 18 (by kernel_rfl) rfl rfl (by assumption) (.inr ⟨by rfl, rfl⟩) ?_
              try simp only [Act.put, List.setIfInBounds_toArray, List.set_cons_zero, List.set_cons_succ]
              refine rgs_t (some 72) 19 (by kernel_rfl) rfl rfl (by assumption) (.inr ⟨by rfl, rfl⟩) ?_
              try simp only [Act.put, List.setIfInBounds_toArray, List.set_cons_zero, List.set_cons_succ]
              refine rgs_t (some 73) 20 (by kernel_rfl) rfl rfl (by assumption) (.inr ⟨by rfl, rfl⟩) ?_
              try simp only [Act.put, List.setIfInBounds_toArray, List.set_cons_zero, List.set_cons_succ]
              refine rgs_t (some 74) 21 (by kernel_rfl) rfl rfl (by assumption) (.inr ⟨by rfl, rfl⟩) ?_
              try simp only [Act.put, List.setIfInBounds_toArray, List.set_cons_zero, List.set_cons_succ]
              refine rgs_t (some 75) 22 (by kernel_rfl) rfl rfl (by assumption) (.inr ⟨by rfl, rfl⟩) ?_
              try simp only [Act.put, List.setIfInBounds_toArray, List.set_cons_zero, List.set_cons_succ]
              refine rgs_t (some 76) 23 (by kernel_rfl) rfl rfl (by assumption) (.inr ⟨by rfl, rfl⟩) ?_
              try simp only [Act.put, List.setIfInBounds_toArray, List.set_cons_zero, List.set_cons_succ]
              refine rgs_t (some 77) 24 (by kernel_rfl) rfl rfl (by assumption) (.inr ⟨by rfl, rfl⟩) ?_
              try simp only [Act.put, List.setIfInBounds_toArray, List.set_cons_zero, List.set_cons_succ]
              refine rgs_t (some 78) 25 (by kernel_rfl) rfl rfl (by assumption) (.inr ⟨by rfl, rfl⟩) ?_
              try simp only [Act.put, List.setIfInBounds_toArray, List.set_cons_zero, List.set_cons_succ]
              refine rgs_t (v := ?_) (some 79) 26 (by kernel_rfl) rfl rfl (by assumption) (.inl ⟨by rfl, fun w' hw => ?_⟩) ?_
              rotate_left
              · obtain ⟨q1, q2, q3⟩ := hw; go_simp <;> with_reducible rfl
              try simp only [Act.put, List.setIfInBounds_toArray, List.set_cons_zero, List.set_cons_succ]
              refine rgs_d (by kernel_rfl) ?_
              go_wp2_with fail
              go_roundw
              case rel => exact ⟨k + 1, by have := HLT.out; omega, by go_num, HN2.out, HBD.out, HBR.out⟩
              case measure => simp [intOf]; have := HLT.out; omega
            · have d2 : (most == 0) = false := by simpa using h2
              have HZ := Lib.hid (HFIN.out (by simp [tbOk, h2]))
              clear h2
              go_wp2
              go_ret
              exact ⟨by rw [HZ.out]; rfl, HBA.out⟩
          · have d1 : ((n : Int) == 0) = false := by simp; omega
            have HZ := Lib.hid (HFIN.out (by simp [tbOk, h1]))
            clear h1
            go_wp2
            go_ret
            exact ⟨by rw [HZ.out]; rfl, HBA.out⟩
        · by_cases h1 : 32 < n
          · have d1 : decide (32 < (n : Int)) = true := by simp; omega
            have d1n : decide (32 < n) = true := by simp; omega
            have HZ := Lib.hid (HFIN.out (by simp [tbOk, show ¬ n ≤ 32 by omega]))
            clear h1
            go_upto_region 9 with fail
            have HBR := Lib.hid (below_drew HBA.out)
            have HTD := Lib.hid HBT.out.drew
            have HBD := Lib.hid HB3.out.drew
            have hS0 := HTF.out _ HTD.out
            refine rgs_start (fun w' => w'.cell? ⟨wr.heap.size, 0, none⟩ = some (.bool true) ∧ w'.cell? ⟨wr.heap.size, 1, none⟩ = some (.slice At n c) ∧ w'.cell? ⟨wr.heap.size, 2, none⟩ = some (.int .i64 most)) (by kernel_rfl) ?_
            refine rgs_t (v := ?_) (some 53) 0 (by kernel_rfl) rfl rfl (by assumption) (.inl ⟨by rfl, fun w' hw => ?_⟩) ?_
            rotate_left
            · obtain ⟨q1, q2, q3⟩ := hw; go_simp <;> with_reducible rfl
            try simp only [Act.put, List.setIfInBounds_toArray, List.set_cons_zero, List.set_cons_succ]
            refine rgs_t (v := ?_) (some 54) 1 (by kernel_rfl) rfl rfl (by assumption) (.inl ⟨by rfl, fun w' hw => ?_⟩) ?_
            rotate_left
            · obtain ⟨q1, q2, q3⟩ := hw; go_simp <;> with_reducible rfl
            try simp only [Act.put, List.setIfInBounds_toArray, List.set_cons_zero, List.set_cons_succ]
            refine rgs_t (v := ?_) (some 55) 2 (by kernel_rfl) rfl rfl (by assumption) (.inl ⟨by rfl, fun w' hw => ?_⟩) ?_
            rotate_left
            · obtain ⟨q1, q2, q3⟩ := hw; go_simp <;> with_reducible rfl
            try simp only [Act.put, List.setIfInBounds_toArray, List.set_cons_zero, List.set_cons_succ]
            refine rgs_t (v := ?_) (some 56) 3 (by kernel_rfl) rfl rfl (by assumption) (.inl ⟨by rfl, fun w' hw => ?_⟩) ?_
            rotate_left
            · obtain ⟨q1, q2, q3⟩ := hw; go_simp <;> with_reducible rfl
            try simp only [Act.put, List.setIfInBounds_toArray, List.set_cons_zero, List.set_cons_succ]
            refine rgs_t (v := ?_) (some 57) 4 (by kernel_rfl) rfl rfl (by assumption) (.inl ⟨by rfl, fun w' hw => ?_⟩) ?_
            rotate_left
            · obtain ⟨q1, q2, q3⟩ := hw; go_simp <;> with_reducible rfl
            try simp only [Act.put, List.setIfInBounds_toArray, List.set_cons_zero, List.set_cons_succ]
            refine rgs_t (v := ?_) (some 58) 5 (by kernel_rfl) rfl rfl (by assumption) (.inl ⟨by rfl, fun w' hw => ?_⟩) ?_
            rotate_left
            · obtain ⟨q1, q2, q3⟩ := hw; go_simp <;> with_reducible rfl
            try simp only [Act.put, List.setIfInBounds_toArray, List.set_cons_zero, List.set_cons_succ]
            refine rgs_t (v := ?_) (some 59) 6 (by kernel_rfl) rfl rfl (by assumption) (.inl ⟨by rfl, fun w' hw => ?_⟩) ?_
            rotate_left
            · obtain ⟨q1, q2, q3⟩ := hw; go_simp <;> with_reducible rfl
            try simp only [Act.put, List.setIfInBounds_toArray, List.set_cons_zero, List.set_cons_succ]
            refine rgs_t (v := ?_) (some 60) 7 (by kernel_rfl) rfl rfl (by assumption) (.inl ⟨by rfl, fun w' hw => ?_⟩) ?_
            rotate_left
            · obtain ⟨q1, q2, q3⟩ := hw; go_simp <;> with_reducible rfl
            try simp only [Act.put, List.setIfInBounds_toArray, List.set_cons_zero, List.set_cons_succ]
            refine rgs_t (some 61) 8 (by kernel_rfl) rfl rfl (by assumption) (.inr ⟨by rfl, rfl⟩) ?_
            try simp only [Act.put, List.setIfInBounds_toArray, List.set_cons_zero, List.set_cons_succ]
            refine rgs_t (some 62) 9 (by kernel_rfl) rfl rfl (by assumption) (.inr ⟨by rfl, rfl⟩) ?_
            try simp only [Act.put, List.setIfInBounds_toArray, List.set_cons_zero, List.set_cons_succ]
            refine rgs_t (some 63) 10 (by kernel_rfl) rfl rfl (by assumption) (.inr ⟨by rfl, rfl⟩) ?_
            try simp only [Act.put, List.setIfInBounds_toArray, List.set_cons_zero, List.set_cons_succ]
            refine rgs_t (some 64) 11 (by kernel_rfl) rfl rfl (by assumption) (.inr ⟨by rfl, rfl⟩) ?_
            try simp only [Act.put, List.setIfInBounds_toArray, List.set_cons_zero, List.set_cons_succ]
            refine rgs_t (v := ?_) (some 65) 12 (by kernel_rfl) rfl rfl (by assumption) (.inl ⟨by rfl, fun w' hw => ?_⟩) ?_
            rotate_left
            · obtain ⟨q1, q2, q3⟩ := hw; go_simp <;> with_reducible rfl
            try simp only [Act.put, List.setIfInBounds_toArray, List.set_cons_zero, List.set_cons_succ]
            refine rgs_t (v := ?_) (some 66) 13 (by kernel_rfl) rfl rfl (by assumption) (.inl ⟨by rfl, fun w' hw => ?_⟩) ?_
            rotate_left
            · obtain ⟨q1, q2, q3⟩ := hw; go_simp <;> with_reducible rfl
            try simp only [Act.put, List.setIfInBounds_toArray, List.set_cons_zero, List.set_cons_succ]
            refine rgs_t (some 67) 14 (by kernel_rfl) rfl rfl (by assumption) (.inr ⟨by rfl, rfl⟩) ?_
            try simp only [Act.put, List.setIfInBounds_toArray, List.set_cons_zero, List.set_cons_succ]
            refine rgs_t (some 68) 15 (by kernel_rfl) rfl rfl (by assumption) (.inr ⟨by rfl, rfl⟩) ?_
            try simp only [Act.put, List.setIfInBounds_toArray, List.set_cons_zero, List.set_cons_succ]
            refine rgs_t (some 69) 16 (by kernel_rfl) rfl rfl (by assumption) (.inr ⟨by rfl, rfl⟩) ?_
            try simp only [Act.put, List.setIfInBounds_toArray, List.set_cons_zero, List.set_cons_succ]
            refine rgs_t (v := ?_) (some 70) 17 (by kernel_rfl) rfl rfl (by assumption) (.inl ⟨by rfl, fun w' hw => ?_⟩) ?_
            rotate_left
            · obtain ⟨q1, q2, q3⟩ := hw; go_simp <;> with_reducible rfl
            try simp only [Act.put, List.setIfInBounds_toArray, List.set_cons_zero, List.set_cons_succ]
            refine rgs_t (v := ?_) (some 71) 18 (by kernel_rfl) rfl rfl (by assumption) (.inl ⟨by rfl, fun w' hw => ?_⟩) ?_
            rotate_left
            · obtain ⟨q1, q2, q3⟩ := hw; go_simp <;> with_reducible rfl
            try simp only [Act.put, List.setIfInBounds_toArray, List.set_cons_zero, List.set_cons_succ]
            refine rgs_t (some 72) 19 (by kernel_rfl) rfl rfl (by assumption) (.inr ⟨by rfl, rfl⟩) ?_
            try simp only [Act.put, List.setIfInBounds_toArray, List.set_cons_zero, List.set_cons_succ]
            refine rgs_t (some 73) 20 (by kernel_rfl) rfl rfl (by assumption) (.inr ⟨by rfl, rfl⟩) ?_
            try simp only [Act.put, List.setIfInBounds_toArray, List.set_cons_zero, List.set_cons_succ]
            refine rgs_t (some 74) 21 (by kernel_rfl) rfl rfl (by assumption) (.inr ⟨by rfl, rfl⟩) ?_
            try simp only [Act.put, List.setIfInBounds_toArray, List.set_cons_zero, List.set_cons_succ]
            refine rgs_t (some 75) 22 (by kernel_rfl) rfl rfl (by assumption) (.inr ⟨by rfl, rfl⟩) ?_
            try simp only [Act.put, List.setIfInBounds_toArray, List.set_cons_zero, List.set_cons_succ]
            refine rgs_t (some 76) 23 (by kernel_rfl) rfl rfl (by assumption) (.inr ⟨by rfl, rfl⟩) ?_
            try simp only [Act.put, List.setIfInBounds_toArray, List.set_cons_zero, List.set_cons_succ]
            refine rgs_t (some 77) 24 (by kernel_rfl) rfl rfl (by assumption) (.inr ⟨by rfl, rfl⟩) ?_
            try simp only [Act.put, List.setIfInBounds_toArray, List.set_cons_zero, List.set_cons_succ]
            refine rgs_t (v := ?_) (some 78) 25 (by kernel_rfl) rfl rfl (by assumption) (.inl ⟨by rfl, fun w' hw => ?_⟩) ?_
            rotate_left
            · obtain ⟨q1, q2, q3⟩ := hw; go_simp <;> with_reducible rfl
            try simp only [Act.put, List.setIfInBounds_toArray, List.set_cons_zero, List.set_cons_succ]
            refine rgs_t (v := ?_) (some 79) 26 (by kernel_rfl) rfl rfl (by assumption) (.inl ⟨by rfl, fun w' hw => ?_⟩) ?_
            rotate_left
            · obtain ⟨q1, q2, q3⟩ := hw; go_simp <;> with_reducible rfl
            try simp only [Act.put, List.setIfInBounds_toArray, List.set_cons_zero, List.set_cons_succ]
            refine rgs_d (by kernel_rfl) ?_
            go_wp2
            go_ret
            exact ⟨by rw [HZ.out]; rfl, HBR.out⟩
          · have d1 : decide (32 < (n : Int)) = false := by simp; omega
            have d1n : decide (32 < n) = false := by simp; omega
            obtain ⟨vl, hvl⟩ : ∃ v, validL rs = v := ⟨_, rfl⟩
            have HVL := Lib.hid (fun (W : World) (h : Rd W w.heap.size 2 At n (rgCells rs)) => rgvalid_any rs At n c w.heap.size W h (by omega) vl hvl)
            cases vl
            · have HZ := Lib.hid (HFIN.out (by simp [tbOk, hvl]))
              clear h1 hvl
              go_upto_region 9 with fail
              have HBR := Lib.hid (below_drew HBA.out)
              have HTD := Lib.hid HBT.out.drew
              have HBD := Lib.hid HB3.out.drew
              have hS0 := HTF.out _ HTD.out
              refine rgs_start (fun w' => w'.cell? ⟨wr.heap.size, 0, none⟩ = some (.bool true) ∧ w'.cell? ⟨wr.heap.size, 1, none⟩ = some (.slice At n c) ∧ w'.cell? ⟨wr.heap.size, 2, none⟩ = some (.int .i64 most)) (by kernel_rfl) ?_
              refine rgs_t (v := ?_) (some 53) 0 (by kernel_rfl) rfl rfl (by assumption) (.inl ⟨by rfl, fun w' hw => ?_⟩) ?_
              rotate_left
              · obtain ⟨q1, q2, q3⟩ := hw; go_simp <;> with_reducible rfl
              try simp only [Act.put, List.setIfInBounds_toArray, List.set_cons_zero, List.set_cons_succ]
              refine rgs_t (v := ?_) (some 54) 1 (by kernel_rfl) rfl rfl (by assumption) (.inl ⟨by rfl, fun w' hw => ?_⟩) ?_
              rotate_left
              · obtain ⟨q1, q2, q3⟩ := hw; go_simp <;> with_reducible rfl
              try simp only [Act.put, List.setIfInBounds_toArray, List.set_cons_zero, List.set_cons_succ]
              refine rgs_t (v := ?_) (some 55) 2 (by kernel_rfl) rfl rfl (by assumption) (.inl ⟨by rfl, fun w' hw => ?_⟩) ?_
              rotate_left
              · obtain ⟨q1, q2, q3⟩ := hw; go_simp <;> with_reducible rfl
              try simp only [Act.put, List.setIfInBounds_toArray, List.set_cons_zero, List.set_cons_succ]
              refine rgs_t (v := ?_) (some 56) 3 (by kernel_rfl) rfl rfl (by assumption) (.inl ⟨by rfl, fun w' hw => ?_⟩) ?_
              rotate_left
              · obtain ⟨q1, q2, q3⟩ := hw; go_simp <;> with_reducible rfl
              try simp only [Act.put, List.setIfInBounds_toArray, List.set_cons_zero, List.set_cons_succ]
              refine rgs_t (v := ?_) (some 57) 4 (by kernel_rfl) rfl rfl (by assumption) (.inl ⟨by rfl, fun w' hw => ?_⟩) ?_
              rotate_left
              · obtain ⟨q1, q2, q3⟩ := hw; go_simp <;> with_reducible rfl
              try simp only [Act.put, List.setIfInBounds_toArray, List.set_cons_zero, List.set_cons_succ]
              refine rgs_t (v := ?_) (some 58) 5 (by kernel_rfl) rfl rfl (by assumption) (.inl ⟨by rfl, fun w' hw => ?_⟩) ?_
              rotate_left
              · obtain ⟨q1, q2, q3⟩ := hw; go_simp <;> with_reducible rfl
              try simp only [Act.put, List.setIfInBounds_toArray, List.set_cons_zero, List.set_cons_succ]
              refine rgs_t (v := ?_) (some 59) 6 (by kernel_rfl) rfl rfl (by assumption) (.inl ⟨by rfl, fun w' hw => ?_⟩) ?_
              rotate_left
              · obtain ⟨q1, q2, q3⟩ := hw; go_simp <;> with_reducible rfl
              try simp only [Act.put, List.setIfInBounds_toArray, List.set_cons_zero, List.set_cons_succ]
              refine rgs_t (v := ?_) (some 60) 7 (by kernel_rfl) rfl rfl (by assumption) (.inl ⟨by rfl, fun w' hw => ?_⟩) ?_
              rotate_left
              · obtain ⟨q1, q2, q3⟩ := hw; go_simp <;> with_reducible rfl
              try simp only [Act.put, List.setIfInBounds_toArray, List.set_cons_zero, List.set_cons_succ]
              refine rgs_t (v := ?_) (some 61) 8 (by kernel_rfl) rfl rfl (by assumption) (.inl ⟨by rfl, fun w' hw => ?_⟩) ?_
              rotate_left
              · obtain ⟨q1, q2, q3⟩ := hw; go_simp <;> with_reducible rfl
              try simp only [Act.put, List.setIfInBounds_toArray, List.set_cons_zero, List.set_cons_succ]
              refine rgs_t (v := ?_) (some 62) 9 (by kernel_rfl) rfl rfl (by assumption) (.inl ⟨by rfl, fun w' hw => ?_⟩) ?_
              rotate_left
              · obtain ⟨q1, q2, q3⟩ := hw; go_simp <;> with_reducible rfl
              try simp only [Act.put, List.setIfInBounds_toArray, List.set_cons_zero, List.set_cons_succ]
              refine rgs_c 10 (by kernel_rfl) rfl (by rfl) (fun K hK => ?_)
              go_simp
              refine (HVL.out _ (HRK.out.below HBR.out (Nat.le_refl _))).mono ?_
              rintro e x5 ⟨rfl, hb5⟩
              have HBR := Lib.hid (ext_trans HBR.out hb5)
              have HTD := Lib.hid (HTD.out.below hb5)
              have HBD := Lib.hid (HBD.out.below hb5)
              have hS5 := HTF.out _ HTD.out
              refine hK _ _ hS5 ?_
              clear hb5 hS0
              clear hK K
              try simp only [Act.put, List.setIfInBounds_toArray, List.set_cons_zero, List.set_cons_succ]
              refine rgs_t (v := ?_) (some 64) 11 (by kernel_rfl) rfl rfl (by assumption) (.inl ⟨by rfl, fun w' hw => ?_⟩) ?_
              rotate_left
              · obtain ⟨q1, q2, q3⟩ := hw; go_simp <;> with_reducible rfl
              try simp only [Act.put, List.setIfInBounds_toArray, List.set_cons_zero, List.set_cons_succ]
              refine rgs_t (v := ?_) (some 65) 12 (by kernel_rfl) rfl rfl (by assumption) (.inl ⟨by rfl, fun w' hw => ?_⟩) ?_
              rotate_left
              · obtain ⟨q1, q2, q3⟩ := hw; go_simp <;> with_reducible rfl
              try simp only [Act.put, List.setIfInBounds_toArray, List.set_cons_zero, List.set_cons_succ]
              refine rgs_t (v := ?_) (some 66) 13 (by kernel_rfl) rfl rfl (by assumption) (.inl ⟨by rfl, fun w' hw => ?_⟩) ?_
              rotate_left
              · obtain ⟨q1, q2, q3⟩ := hw; go_simp <;> with_reducible rfl
              try simp only [Act.put, List.setIfInBounds_toArray, List.set_cons_zero, List.set_cons_succ]
              refine rgs_t (some 67) 14 (by kernel_rfl) rfl rfl (by assumption) (.inr ⟨by rfl, rfl⟩) ?_
              try simp only [Act.put, List.setIfInBounds_toArray, List.set_cons_zero, List.set_cons_succ]
              refine rgs_t (some 68) 15 (by kernel_rfl) rfl rfl (by assumption) (.inr ⟨by rfl, rfl⟩) ?_
              try simp only [Act.put, List.setIfInBounds_toArray, List.set_cons_zero, List.set_cons_succ]
              refine rgs_t (some 69) 16 (by kernel_rfl) rfl rfl (by assumption) (.inr ⟨by rfl, rfl⟩) ?_
              try simp only [Act.put, List.setIfInBounds_toArray, List.set_cons_zero, List.set_cons_succ]
              refine rgs_t (v := ?_) (some 70) 17 (by kernel_rfl) rfl rfl (by assumption) (.inl ⟨by rfl, fun w' hw => ?_⟩) ?_
              rotate_left
              · obtain ⟨q1, q2, q3⟩ := hw; go_simp <;> with_reducible rfl
              try simp only [Act.put, List.setIfInBounds_toArray, List.set_cons_zero, List.set_cons_succ]
              refine rgs_t (v := ?_) (some 71) 18 (by kernel_rfl) rfl rfl (by assumption) (.inl ⟨by rfl, fun w' hw => ?_⟩) ?_
              rotate_left
              · obtain ⟨q1, q2, q3⟩ := hw; go_simp <;> with_reducible rfl
              try simp only [Act.put, List.setIfInBounds_toArray, List.set_cons_zero, List.set_cons_succ]
              refine rgs_t (some 72) 19 (by kernel_rfl) rfl rfl (by assumption) (.inr ⟨by rfl, rfl⟩) ?_
              try simp only [Act.put, List.setIfInBounds_toArray, List.set_cons_zero, List.set_cons_succ]
              refine rgs_t (some 73) 20 (by kernel_rfl) rfl rfl (by assumption) (.inr ⟨by rfl, rfl⟩) ?_
              try simp only [Act.put, List.setIfInBounds_toArray, List.set_cons_zero, List.set_cons_succ]
              refine rgs_t (some 74) 21 (by kernel_rfl) rfl rfl (by assumption) (.inr ⟨by rfl, rfl⟩) ?_
              try simp only [Act.put, List.setIfInBounds_toArray, List.set_cons_zero, List.set_cons_succ]
              refine rgs_t (some 75) 22 (by kernel_rfl) rfl rfl (by assumption) (.inr ⟨by rfl, rfl⟩) ?_
              try simp only [Act.put, List.setIfInBounds_toArray, List.set_cons_zero, List.set_cons_succ]
              refine rgs_t (some 76) 23 (by kernel_rfl) rfl rfl (by assumption) (.inr ⟨by rfl, rfl⟩) ?_
              try simp only [Act.put, List.setIfInBounds_toArray, List.set_cons_zero, List.set_cons_succ]
              refine rgs_t (some 77) 24 (by kernel_rfl) rfl rfl (by assumption) (.inr ⟨by rfl, rfl⟩) ?_
              try simp only [Act.put, List.setIfInBounds_toArray, List.set_cons_zero, List.set_cons_succ]
              refine rgs_t (v := ?_) (some 78) 25 (by kernel_rfl) rfl rfl (by assumption) (.inl ⟨by rfl, fun w' hw => ?_⟩) ?_
              rotate_left
              · obtain ⟨q1, q2, q3⟩ := hw; go_simp <;> with_reducible rfl
              try simp only [Act.put, List.setIfInBounds_toArray, List.set_cons_zero, List.set_cons_succ]
              refine rgs_t (v := ?_) (some 79) 26 (by kernel_rfl) rfl rfl (by assumption) (.inl ⟨by rfl, fun w' hw => ?_⟩) ?_
              rotate_left
              · obtain ⟨q1, q2, q3⟩ := hw; go_simp <;> with_reducible rfl
              try simp only [Act.put, List.setIfInBounds_toArray, List.set_cons_zero, List.set_cons_succ]
              refine rgs_d (by kernel_rfl) ?_
              go_wp2
              go_ret
              exact ⟨by rw [HZ.out]; rfl, HBR.out⟩
            · by_cases h2 : most < 1
              · have d2 : decide (most < 1) = true := by simpa using h2
                have HZ := Lib.hid (HFIN.out (by simp [tbOk, show ¬ 1 ≤ most by omega]))
                clear h1 h2 hvl
                go_upto_region 9 with fail
                have HBR := Lib.hid (below_drew HBA.out)
                have HTD := Lib.hid HBT.out.drew
                have HBD := Lib.hid HB3.out.drew
                have hS0 := HTF.out _ HTD.out
                refine rgs_start (fun w' => w'.cell? ⟨wr.heap.size, 0, none⟩ = some (.bool true) ∧ w'.cell? ⟨wr.heap.size, 1, none⟩ = some (.slice At n c) ∧ w'.cell? ⟨wr.heap.size, 2, none⟩ = some (.int .i64 most)) (by kernel_rfl) ?_
                refine rgs_t (v := ?_) (some 53) 0 (by kernel_rfl) rfl rfl (by assumption) (.inl ⟨by rfl, fun w' hw => ?_⟩) ?_
                rotate_left
                · obtain ⟨q1, q2, q3⟩ := hw; go_simp <;> with_reducible rfl
                try simp only [Act.put, List.setIfInBounds_toArray, List.set_cons_zero, List.set_cons_succ]
                refine rgs_t (v := ?_) (some 54) 1 (by kernel_rfl) rfl rfl (by assumption) (.inl ⟨by rfl, fun w' hw => ?_⟩) ?_
                rotate_left
                · obtain ⟨q1, q2, q3⟩ := hw; go_simp <;> with_reducible rfl
                try simp only [Act.put, List.setIfInBounds_toArray, List.set_cons_zero, List.set_cons_succ]
                refine rgs_t (v := ?_) (some 55) 2 (by kernel_rfl) rfl rfl (by assumption) (.inl ⟨by rfl, fun w' hw => ?_⟩) ?_
                rotate_left
                · obtain ⟨q1, q2, q3⟩ := hw; go_simp <;> with_reducible rfl
                try simp only [Act.put, List.setIfInBounds_toArray, List.set_cons_zero, List.set_cons_succ]
                refine rgs_t (v := ?_) (some 56) 3 (by kernel_rfl) rfl rfl (by assumption) (.inl ⟨by rfl, fun w' hw => ?_⟩) ?_
                rotate_left
                · obtain ⟨q1, q2, q3⟩ := hw; go_simp <;> with_reducible rfl
                try simp only [Act.put, List.setIfInBounds_toArray, List.set_cons_zero, List.set_cons_succ]
                refine rgs_t (v := ?_) (some 57) 4 (by kernel_rfl) rfl rfl (by assumption) (.inl ⟨by rfl, fun w' hw => ?_⟩) ?_
                rotate_left
                · obtain ⟨q1, q2, q3⟩ := hw; go_simp <;> with_reducible rfl
                try simp only [Act.put, List.setIfInBounds_toArray, List.set_cons_zero, List.set_cons_succ]
                refine rgs_t (v := ?_) (some 58) 5 (by kernel_rfl) rfl rfl (by assumption) (.inl ⟨by rfl, fun w' hw => ?_⟩) ?_
                rotate_left
                · obtain ⟨q1, q2, q3⟩ := hw; go_simp <;> with_reducible rfl
                try simp only [Act.put, List.setIfInBounds_toArray, List.set_cons_zero, List.set_cons_succ]
                refine rgs_t (v := ?_) (some 59) 6 (by kernel_rfl) rfl rfl (by assumption) (.inl ⟨by rfl, fun w' hw => ?_⟩) ?_
                rotate_left
                · obtain ⟨q1, q2, q3⟩ := hw; go_simp <;> with_reducible rfl
                try simp only [Act.put, List.setIfInBounds_toArray, List.set_cons_zero, List.set_cons_succ]
                refine rgs_t (v := ?_) (some 60) 7 (by kernel_rfl) rfl rfl (by assumption) (.inl ⟨by rfl, fun w' hw => ?_⟩) ?_
                rotate_left
                · obtain ⟨q1, q2, q3⟩ := hw; go_simp <;> with_reducible rfl
                try simp only [Act.put, List.setIfInBounds_toArray, List.set_cons_zero, List.set_cons_succ]
                refine rgs_t (v := ?_) (some 61) 8 (by kernel_rfl) rfl rfl (by assumption) (.inl ⟨by rfl, fun w' hw => ?_⟩) ?_
                rotate_left
                · obtain ⟨q1, q2, q3⟩ := hw; go_simp <;> with_reducible rfl
                try simp only [Act.put, List.setIfInBounds_toArray, List.set_cons_zero, List.set_cons_succ]
                refine rgs_t (v := ?_) (some 62) 9 (by kernel_rfl) rfl rfl (by assumption) (.inl ⟨by rfl, fun w' hw => ?_⟩) ?_
                rotate_left
                · obtain ⟨q1, q2, q3⟩ := hw; go_simp <;> with_reducible rfl
                try simp only [Act.put, List.setIfInBounds_toArray, List.set_cons_zero, List.set_cons_succ]
                refine rgs_c 10 (by kernel_rfl) rfl (by rfl) (fun K hK => ?_)
                go_simp
                refine (HVL.out _ (HRK.out.below HBR.out (Nat.le_refl _))).mono ?_
                rintro e x5 ⟨rfl, hb5⟩
                have HBR := Lib.hid (ext_trans HBR.out hb5)
                have HTD := Lib.hid (HTD.out.below hb5)
                have HBD := Lib.hid (HBD.out.below hb5)
                have hS5 := HTF.out _ HTD.out
                refine hK _ _ hS5 ?_
                clear hb5 hS0
                clear hK K
                try simp only [Act.put, List.setIfInBounds_toArray, List.set_cons_zero, List.set_cons_succ]
                refine rgs_t (v := ?_) (some 64) 11 (by kernel_rfl) rfl rfl (by assumption) (.inl ⟨by rfl, fun w' hw => ?_⟩) ?_
                rotate_left
                · obtain ⟨q1, q2, q3⟩ := hw; go_simp <;> with_reducible rfl
                try simp only [Act.put, List.setIfInBounds_toArray, List.set_cons_zero, List.set_cons_succ]
                refine rgs_t (v := ?_) (some 65) 12 (by kernel_rfl) rfl rfl (by assumption) (.inl ⟨by rfl, fun w' hw => ?_⟩) ?_
                rotate_left
                · obtain ⟨q1, q2, q3⟩ := hw; go_simp <;> with_reducible rfl
                try simp only [Act.put, List.setIfInBounds_toArray, List.set_cons_zero, List.set_cons_succ]
                refine rgs_t (v := ?_) (some 66) 13 (by kernel_rfl) rfl rfl (by assumption) (.inl ⟨by rfl, fun w' hw => ?_⟩) ?_
                rotate_left
                · obtain ⟨q1, q2, q3⟩ := hw; go_simp <;> with_reducible rfl
                try simp only [Act.put, List.setIfInBounds_toArray, List.set_cons_zero, List.set_cons_succ]
                refine rgs_t (v := ?_) (some 67) 14 (by kernel_rfl) rfl rfl (by assumption) (.inl ⟨by rfl, fun w' hw => ?_⟩) ?_
                rotate_left
                · obtain ⟨q1, q2, q3⟩ := hw; go_simp <;> with_reducible rfl
                try simp only [Act.put, List.setIfInBounds_toArray, List.set_cons_zero, List.set_cons_succ]
                refine rgs_t (v := ?_) (some 68) 15 (by kernel_rfl) rfl rfl (by assumption) (.inl ⟨by rfl, fun w' hw => ?_⟩) ?_
                rotate_left
                · obtain ⟨q1, q2, q3⟩ := hw; go_simp <;> with_reducible rfl
                try simp only [Act.put, List.setIfInBounds_toArray, List.set_cons_zero, List.set_cons_succ]
                refine rgs_t (v := ?_) (some 69) 16 (by kernel_rfl) rfl rfl (by assumption) (.inl ⟨by rfl, fun w' hw => ?_⟩) ?_
                rotate_left
                · obtain ⟨q1, q2, q3⟩ := hw; go_simp <;> with_reducible rfl
                try simp only [Act.put, List.setIfInBounds_toArray, List.set_cons_zero, List.set_cons_succ]
                refine rgs_t (v := ?_) (some 70) 17 (by kernel_rfl) rfl rfl (by assumption) (.inl ⟨by rfl, fun w' hw => ?_⟩) ?_
                rotate_left
                · obtain ⟨q1, q2, q3⟩ := hw; go_simp <;> with_reducible rfl
                try simp only [Act.put, List.setIfInBounds_toArray, List.set_cons_zero, List.set_cons_succ]
                refine rgs_t (v := ?_) (some 71) 18 (by kernel_rfl) rfl rfl (by assumption) (.inl ⟨by rfl, fun w' hw => ?_⟩) ?_
                rotate_left
                · obtain ⟨q1, q2, q3⟩ := hw; go_simp <;> with_reducible rfl
                try simp only [Act.put, List.setIfInBounds_toArray, List.set_cons_zero, List.set_cons_succ]
                refine rgs_t (some 72) 19 (by kernel_rfl) rfl rfl (by assumption) (.inr ⟨by rfl, rfl⟩) ?_
                try simp only [Act.put, List.setIfInBounds_toArray, List.set_cons_zero, List.set_cons_succ]
                refine rgs_t (some 73) 20 (by kernel_rfl) rfl rfl (by assumption) (.inr ⟨by rfl, rfl⟩) ?_
                try simp only [Act.put, List.setIfInBounds_toArray, List.set_cons_zero, List.set_cons_succ]
                refine rgs_t (some 74) 21 (by kernel_rfl) rfl rfl (by assumption) (.inr ⟨by rfl, rfl⟩) ?_
                try simp only [Act.put, List.setIfInBounds_toArray, List.set_cons_zero, List.set_cons_succ]
                refine rgs_t (some 75) 22 (by kernel_rfl) rfl rfl (by assumption) (.inr ⟨by rfl, rfl⟩) ?_
                try simp only [Act.put, List.setIfInBounds_toArray, List.set_cons_zero, List.set_cons_succ]
                refine rgs_t (some 76) 23 (by kernel_rfl) rfl rfl (by assumption) (.inr ⟨by rfl, rfl⟩) ?_
                try simp only [Act.put, List.setIfInBounds_toArray, List.set_cons_zero, List.set_cons_succ]
                refine rgs_t (some 77) 24 (by kernel_rfl) rfl rfl (by assumption) (.inr ⟨by rfl, rfl⟩) ?_
                try simp only [Act.put, List.setIfInBounds_toArray, List.set_cons_zero, List.set_cons_succ]
                refine rgs_t (v := ?_) (some 78) 25 (by kernel_rfl) rfl rfl (by assumption) (.inl ⟨by rfl, fun w' hw => ?_⟩) ?_
                rotate_left
                · obtain ⟨q1, q2, q3⟩ := hw; go_simp <;> with_reducible rfl
                try simp only [Act.put, List.setIfInBounds_toArray, List.set_cons_zero, List.set_cons_succ]
                refine rgs_t (v := ?_) (some 79) 26 (by kernel_rfl) rfl rfl (by assumption) (.inl ⟨by rfl, fun w' hw => ?_⟩) ?_
                rotate_left
                · obtain ⟨q1, q2, q3⟩ := hw; go_simp <;> with_reducible rfl
                try simp only [Act.put, List.setIfInBounds_toArray, List.set_cons_zero, List.set_cons_succ]
                refine rgs_d (by kernel_rfl) ?_
                go_wp2
                go_ret
                exact ⟨by rw [HZ.out]; rfl, HBR.out⟩
              · have d2 : decide (most < 1) = false := by simp; omega
                obtain ⟨lm, hlm⟩ : ∃ z, slimZ ((k : Int) + 1) = z := ⟨_, rfl⟩
                by_cases h3 : lm < most
                · have d3 : decide (lm < most) = true := by simpa using h3
                  have HZ := Lib.hid (HFIN.out (by simp [tbOk, hlm, show ¬ most ≤ lm by omega]))
                  have HLM := Lib.hid (fun W => hlm ▸ srlim_any ((k : Int) + 1) W)
                  clear h1 h2 h3 hvl hlm
                  go_upto_region 9 with fail
                  have HBR := Lib.hid (below_drew HBA.out)
                  have HTD := Lib.hid HBT.out.drew
                  have HBD := Lib.hid HB3.out.drew
                  have hS0 := HTF.out _ HTD.out
                  refine rgs_start (fun w' => w'.cell? ⟨wr.heap.size, 0, none⟩ = some (.bool true) ∧ w'.cell? ⟨wr.heap.size, 1, none⟩ = some (.slice At n c) ∧ w'.cell? ⟨wr.heap.size, 2, none⟩ = some (.int .i64 most)) (by kernel_rfl) ?_
                  refine rgs_t (v := ?_) (some 53) 0 (by kernel_rfl) rfl rfl (by assumption) (.inl ⟨by rfl, fun w' hw => ?_⟩) ?_
                  rotate_left
                  · obtain ⟨q1, q2, q3⟩ := hw; go_simp <;> with_reducible rfl
                  try simp only [Act.put, List.setIfInBounds_toArray, List.set_cons_zero, List.set_cons_succ]
                  refine rgs_t (v := ?_) (some 54) 1 (by kernel_rfl) rfl rfl (by assumption) (.inl ⟨by rfl, fun w' hw => ?_⟩) ?_
                  rotate_left
                  · obtain ⟨q1, q2, q3⟩ := hw; go_simp <;> with_reducible rfl
                  try simp only [Act.put, List.setIfInBounds_toArray, List.set_cons_zero, List.set_cons_succ]
                  refine rgs_t (v := ?_) (some 55) 2 (by kernel_rfl) rfl rfl (by assumption) (.inl ⟨by rfl, fun w' hw => ?_⟩) ?_
                  rotate_left
                  · obtain ⟨q1, q2, q3⟩ := hw; go_simp <;> with_reducible rfl
                  try simp only [Act.put, List.setIfInBounds_toArray, List.set_cons_zero, List.set_cons_succ]
                  refine rgs_t (v := ?_) (some 56) 3 (by kernel_rfl) rfl rfl (by assumption) (.inl ⟨by rfl, fun w' hw => ?_⟩) ?_
                  rotate_left
                  · obtain ⟨q1, q2, q3⟩ := hw; go_simp <;> with_reducible rfl
                  try simp only [Act.put, List.setIfInBounds_toArray, List.set_cons_zero, List.set_cons_succ]
                  refine rgs_t (v := ?_) (some 57) 4 (by kernel_rfl) rfl rfl (by assumption) (.inl ⟨by rfl, fun w' hw => ?_⟩) ?_
                  rotate_left
                  · obtain ⟨q1, q2, q3⟩ := hw; go_simp <;> with_reducible rfl
                  try simp only [Act.put, List.setIfInBounds_toArray, List.set_cons_zero, List.set_cons_succ]
                  refine rgs_t (v := ?_) (some 58) 5 (by kernel_rfl) rfl rfl (by assumption) (.inl ⟨by rfl, fun w' hw => ?_⟩) ?_
                  rotate_left
                  · obtain ⟨q1, q2, q3⟩ := hw; go_simp <;> with_reducible rfl
                  try simp only [Act.put, List.setIfInBounds_toArray, List.set_cons_zero, List.set_cons_succ]
                  refine rgs_t (v := ?_) (some 59) 6 (by kernel_rfl) rfl rfl (by assumption) (.inl ⟨by rfl, fun w' hw => ?_⟩) ?_
                  rotate_left
                  · obtain ⟨q1, q2, q3⟩ := hw; go_simp <;> with_reducible rfl
                  try simp only [Act.put, List.setIfInBounds_toArray, List.set_cons_zero, List.set_cons_succ]
                  refine rgs_t (v := ?_) (some 60) 7 (by kernel_rfl) rfl rfl (by assumption) (.inl ⟨by rfl, fun w' hw => ?_⟩) ?_
                  rotate_left
                  · obtain ⟨q1, q2, q3⟩ := hw; go_simp <;> with_reducible rfl
                  try simp only [Act.put, List.setIfInBounds_toArray, List.set_cons_zero, List.set_cons_succ]
                  refine rgs_t (v := ?_) (some 61) 8 (by kernel_rfl) rfl rfl (by assumption) (.inl ⟨by rfl, fun w' hw => ?_⟩) ?_
                  rotate_left
                  · obtain ⟨q1, q2, q3⟩ := hw; go_simp <;> with_reducible rfl
                  try simp only [Act.put, List.setIfInBounds_toArray, List.set_cons_zero, List.set_cons_succ]
                  refine rgs_t (v := ?_) (some 62) 9 (by kernel_rfl) rfl rfl (by assumption) (.inl ⟨by rfl, fun w' hw => ?_⟩) ?_
                  rotate_left
                  · obtain ⟨q1, q2, q3⟩ := hw; go_simp <;> with_reducible rfl
                  try simp only [Act.put, List.setIfInBounds_toArray, List.set_cons_zero, List.set_cons_succ]
                  refine rgs_c 10 (by kernel_rfl) rfl (by rfl) (fun K hK => ?_)
                  go_simp
                  refine (HVL.out _ (HRK.out.below HBR.out (Nat.le_refl _))).mono ?_
                  rintro e x5 ⟨rfl, hb5⟩
                  have HBR := Lib.hid (ext_trans HBR.out hb5)
                  have HTD := Lib.hid (HTD.out.below hb5)
                  have HBD := Lib.hid (HBD.out.below hb5)
                  have hS5 := HTF.out _ HTD.out
                  refine hK _ _ hS5 ?_
                  clear hb5 hS0
                  clear hK K
                  try simp only [Act.put, List.setIfInBounds_toArray, List.set_cons_zero, List.set_cons_succ]
                  refine rgs_t (v := ?_) (some 64) 11 (by kernel_rfl) rfl rfl (by assumption) (.inl ⟨by rfl, fun w' hw => ?_⟩) ?_
                  rotate_left
                  · obtain ⟨q1, q2, q3⟩ := hw; go_simp <;> with_reducible rfl
                  try simp only [Act.put, List.setIfInBounds_toArray, List.set_cons_zero, List.set_cons_succ]
                  refine rgs_t (v := ?_) (some 65) 12 (by kernel_rfl) rfl rfl (by assumption) (.inl ⟨by rfl, fun w' hw => ?_⟩) ?_
                  rotate_left
                  · obtain ⟨q1, q2, q3⟩ := hw; go_simp <;> with_reducible rfl
                  try simp only [Act.put, List.setIfInBounds_toArray, List.set_cons_zero, List.set_cons_succ]
                  refine rgs_t (v := ?_) (some 66) 13 (by kernel_rfl) rfl rfl (by assumption) (.inl ⟨by rfl, fun w' hw => ?_⟩) ?_
                  rotate_left
                  · obtain ⟨q1, q2, q3⟩ := hw; go_simp <;> with_reducible rfl
                  try simp only [Act.put, List.setIfInBounds_toArray, List.set_cons_zero, List.set_cons_succ]
                  refine rgs_t (v := ?_) (some 67) 14 (by kernel_rfl) rfl rfl (by assumption) (.inl ⟨by rfl, fun w' hw => ?_⟩) ?_
                  rotate_left
                  · obtain ⟨q1, q2, q3⟩ := hw; go_simp <;> with_reducible rfl
                  try simp only [Act.put, List.setIfInBounds_toArray, List.set_cons_zero, List.set_cons_succ]
                  refine rgs_t (v := ?_) (some 68) 15 (by kernel_rfl) rfl rfl (by assumption) (.inl ⟨by rfl, fun w' hw => ?_⟩) ?_
                  rotate_left
                  · obtain ⟨q1, q2, q3⟩ := hw; go_simp <;> with_reducible rfl
                  try simp only [Act.put, List.setIfInBounds_toArray, List.set_cons_zero, List.set_cons_succ]
                  refine rgs_t (v := ?_) (some 69) 16 (by kernel_rfl) rfl rfl (by assumption) (.inl ⟨by rfl, fun w' hw => ?_⟩) ?_
                  rotate_left
                  · obtain ⟨q1, q2, q3⟩ := hw; go_simp <;> with_reducible rfl
                  try simp only [Act.put, List.setIfInBounds_toArray, List.set_cons_zero, List.set_cons_succ]
                  refine rgs_t (v := ?_) (some 70) 17 (by kernel_rfl) rfl rfl (by assumption) (.inl ⟨by rfl, fun w' hw => ?_⟩) ?_
                  rotate_left
                  · obtain ⟨q1, q2, q3⟩ := hw; go_simp <;> with_reducible rfl
                  try simp only [Act.put, List.setIfInBounds_toArray, List.set_cons_zero, List.set_cons_succ]
                  refine rgs_t (v := ?_) (some 71) 18 (by kernel_rfl) rfl rfl (by assumption) (.inl ⟨by rfl, fun w' hw => ?_⟩) ?_
                  rotate_left
                  · obtain ⟨q1, q2, q3⟩ := hw; go_simp <;> with_reducible rfl
                  try simp only [Act.put, List.setIfInBounds_toArray, List.set_cons_zero, List.set_cons_succ]
                  refine rgs_t (v := ?_) (some 72) 19 (by kernel_rfl) rfl rfl (by assumption) (.inl ⟨by rfl, fun w' hw => ?_⟩) ?_
                  rotate_left
                  · obtain ⟨q1, q2, q3⟩ := hw; go_simp <;> with_reducible rfl
                  try simp only [Act.put, List.setIfInBounds_toArray, List.set_cons_zero, List.set_cons_succ]
                  refine rgs_t (v := ?_) (some 73) 20 (by kernel_rfl) rfl rfl (by assumption) (.inl ⟨by rfl, fun w' hw => ?_⟩) ?_
                  rotate_left
                  · obtain ⟨q1, q2, q3⟩ := hw; go_simp <;> with_reducible rfl
                  try simp only [Act.put, List.setIfInBounds_toArray, List.set_cons_zero, List.set_cons_succ]
                  refine rgs_t (v := ?_) (some 74) 21 (by kernel_rfl) rfl rfl (by assumption) (.inl ⟨by rfl, fun w' hw => ?_⟩) ?_
                  rotate_left
                  · obtain ⟨q1, q2, q3⟩ := hw; go_simp <;> with_reducible rfl
                  try simp only [Act.put, List.setIfInBounds_toArray, List.set_cons_zero, List.set_cons_succ]
                  refine rgs_t (v := ?_) (some 75) 22 (by kernel_rfl) rfl rfl (by assumption) (.inl ⟨by rfl, fun w' hw => ?_⟩) ?_
                  rotate_left
                  · obtain ⟨q1, q2, q3⟩ := hw; go_simp <;> with_reducible rfl
                  try simp only [Act.put, List.setIfInBounds_toArray, List.set_cons_zero, List.set_cons_succ]
                  refine rgs_c 23 (by kernel_rfl) rfl (by rfl) (fun K hK => ?_)
                  go_simp
                  refine (HLM.out _).mono ?_
                  rintro e x6 ⟨rfl, rfl⟩
                  refine hK _ _ hS5 ?_
                  clear hK K
                  try simp only [Act.put, List.setIfInBounds_toArray, List.set_cons_zero, List.set_cons_succ]
                  refine rgs_t (v := ?_) (some 77) 24 (by kernel_rfl) rfl rfl (by assumption) (.inl ⟨by rfl, fun w' hw => ?_⟩) ?_
                  rotate_left
                  · obtain ⟨q1, q2, q3⟩ := hw; go_simp <;> with_reducible rfl
                  try simp only [Act.put, List.setIfInBounds_toArray, List.set_cons_zero, List.set_cons_succ]
                  refine rgs_t (v := ?_) (some 78) 25 (by kernel_rfl) rfl rfl (by assumption) (.inl ⟨by rfl, fun w' hw => ?_⟩) ?_
                  rotate_left
                  · obtain ⟨q1, q2, q3⟩ := hw; go_simp <;> with_reducible rfl
                  try simp only [Act.put, List.setIfInBounds_toArray, List.set_cons_zero, List.set_cons_succ]
                  refine rgs_t (v := ?_) (some 79) 26 (by kernel_rfl) rfl rfl (by assumption) (.inl ⟨by rfl, fun w' hw => ?_⟩) ?_
                  rotate_left
                  · obtain ⟨q1, q2, q3⟩ := hw; go_simp <;> with_reducible rfl
                  try simp only [Act.put, List.setIfInBounds_toArray, List.set_cons_zero, List.set_cons_succ]
                  refine rgs_d (by kernel_rfl) ?_
                  go_wp2
                  go_ret
                  exact ⟨by rw [HZ.out]; rfl, HBR.out⟩
                · have d3 : decide (lm < most) = false := by simp; omega
                  have HN2 := Lib.hid (HNX.out (by simp [tbOk, hlm, hvl, show most ≤ lm by omega, show n ≤ 32 by omega, show 1 ≤ most by omega]))
                  have HLM := Lib.hid (fun W => hlm ▸ srlim_any ((k : Int) + 1) W)
                  clear h1 h2 h3 hvl hlm
                  go_upto_region 9 with fail
                  have HBR := Lib.hid (below_drew HBA.out)
                  have HTD := Lib.hid HBT.out.drew
                  have HBD := Lib.hid HB3.out.drew
                  have hS0 := HTF.out _ HTD.out
                  refine rgs_start (fun w' => w'.cell? ⟨wr.heap.size, 0, none⟩ = some (.bool true) ∧ w'.cell? ⟨wr.heap.size, 1, none⟩ = some (.slice At n c) ∧ w'.cell? ⟨wr.heap.size, 2, none⟩ = some (.int .i64 most)) (by kernel_rfl) ?_
                  refine rgs_t (v := ?_) (some 53) 0 (by kernel_rfl) rfl rfl (by assumption) (.inl ⟨by rfl, fun w' hw => ?_⟩) ?_
                  rotate_left
                  · obtain ⟨q1, q2, q3⟩ := hw; go_simp <;> with_reducible rfl
                  try simp only [Act.put, List.setIfInBounds_toArray, List.set_cons_zero, List.set_cons_succ]
                  refine rgs_t (v := ?_) (some 54) 1 (by kernel_rfl) rfl rfl (by assumption) (.inl ⟨by rfl, fun w' hw => ?_⟩) ?_
                  rotate_left
                  · obtain ⟨q1, q2, q3⟩ := hw; go_simp <;> with_reducible rfl
                  try simp only [Act.put, List.setIfInBounds_toArray, List.set_cons_zero, List.set_cons_succ]
                  refine rgs_t (v := ?_) (some 55) 2 (by kernel_rfl) rfl rfl (by assumption) (.inl ⟨by rfl, fun w' hw => ?_⟩) ?_
                  rotate_left
                  · obtain ⟨q1, q2, q3⟩ := hw; go_simp <;> with_reducible rfl
                  try simp only [Act.put, List.setIfInBounds_toArray, List.set_cons_zero, List.set_cons_succ]
                  refine rgs_t (v := ?_) (some 56) 3 (by kernel_rfl) rfl rfl (by assumption) (.inl ⟨by rfl, fun w' hw => ?_⟩) ?_
                  rotate_left
                  · obtain ⟨q1, q2, q3⟩ := hw; go_simp <;> with_reducible rfl
                  try simp only [Act.put, List.setIfInBounds_toArray, List.set_cons_zero, List.set_cons_succ]
                  refine rgs_t (v := ?_) (some 57) 4 (by kernel_rfl) rfl rfl (by assumption) (.inl ⟨by rfl, fun w' hw => ?_⟩) ?_
                  rotate_left
                  · obtain ⟨q1, q2, q3⟩ := hw; go_simp <;> with_reducible rfl
                  try simp only [Act.put, List.setIfInBounds_toArray, List.set_cons_zero, List.set_cons_succ]
                  refine rgs_t (v := ?_) (some 58) 5 (by kernel_rfl) rfl rfl (by assumption) (.inl ⟨by rfl, fun w' hw => ?_⟩) ?_
                  rotate_left
                  · obtain ⟨q1, q2, q3⟩ := hw; go_simp <;> with_reducible rfl
                  try simp only [Act.put, List.setIfInBounds_toArray, List.set_cons_zero, List.set_cons_succ]
                  refine rgs_t (v := ?_) (some 59) 6 (by kernel_rfl) rfl rfl (by assumption) (.inl ⟨by rfl, fun w' hw => ?_⟩) ?_
                  rotate_left
                  · obtain ⟨q1, q2, q3⟩ := hw; go_simp <;> with_reducible rfl
                  try simp only [Act.put, List.setIfInBounds_toArray, List.set_cons_zero, List.set_cons_succ]
                  refine rgs_t (v := ?_) (some 60) 7 (by kernel_rfl) rfl rfl (by assumption) (.inl ⟨by rfl, fun w' hw => ?_⟩) ?_
                  rotate_left
                  · obtain ⟨q1, q2, q3⟩ := hw; go_simp <;> with_reducible rfl
                  try simp only [Act.put, List.setIfInBounds_toArray, List.set_cons_zero, List.set_cons_succ]
                  refine rgs_t (v := ?_) (some 61) 8 (by kernel_rfl) rfl rfl (by assumption) (.inl ⟨by rfl, fun w' hw => ?_⟩) ?_
                  rotate_left
                  · obtain ⟨q1, q2, q3⟩ := hw; go_simp <;> with_reducible rfl
                  try simp only [Act.put, List.setIfInBounds_toArray, List.set_cons_zero, List.set_cons_succ]
                  refine rgs_t (v := ?_) (some 62) 9 (by kernel_rfl) rfl rfl (by assumption) (.inl ⟨by rfl, fun w' hw => ?_⟩) ?_
                  rotate_left
                  · obtain ⟨q1, q2, q3⟩ := hw; go_simp <;> with_reducible rfl
                  try simp only [Act.put, List.setIfInBounds_toArray, List.set_cons_zero, List.set_cons_succ]
                  refine rgs_c 10 (by kernel_rfl) rfl (by rfl) (fun K hK => ?_)
                  go_simp
                  refine (HVL.out _ (HRK.out.below HBR.out (Nat.le_refl _))).mono ?_
                  rintro e x5 ⟨rfl, hb5⟩
                  have HBR := Lib.hid (ext_trans HBR.out hb5)
                  have HTD := Lib.hid (HTD.out.below hb5)
                  have HBD := Lib.hid (HBD.out.below hb5)
                  have hS5 := HTF.out _ HTD.out
                  refine hK _ _ hS5 ?_
                  clear hb5 hS0
                  clear hK K
                  try simp only [Act.put, List.setIfInBounds_toArray, List.set_cons_zero, List.set_cons_succ]
                  refine rgs_t (v := ?_) (some 64) 11 (by kernel_rfl) rfl rfl (by assumption) (.inl ⟨by rfl, fun w' hw => ?_⟩) ?_
                  rotate_left
                  · obtain ⟨q1, q2, q3⟩ := hw; go_simp <;> with_reducible rfl
                  try simp only [Act.put, List.setIfInBounds_toArray, List.set_cons_zero, List.set_cons_succ]
                  refine rgs_t (v := ?_) (some 65) 12 (by kernel_rfl) rfl rfl (by assumption) (.inl ⟨by rfl, fun w' hw => ?_⟩) ?_
                  rotate_left
                  · obtain ⟨q1, q2, q3⟩ := hw; go_simp <;> with_reducible rfl
                  try simp only [Act.put, List.setIfInBounds_toArray, List.set_cons_zero, List.set_cons_succ]
                  refine rgs_t (v := ?_) (some 66) 13 (by kernel_rfl) rfl rfl (by assumption) (.inl ⟨by rfl, fun w' hw => ?_⟩) ?_
                  rotate_left
                  · obtain ⟨q1, q2, q3⟩ := hw; go_simp <;> with_reducible rfl
                  try simp only [Act.put, List.setIfInBounds_toArray, List.set_cons_zero, List.set_cons_succ]
                  refine rgs_t (v := ?_) (some 67) 14 (by kernel_rfl) rfl rfl (by assumption) (.inl ⟨by rfl, fun w' hw => ?_⟩) ?_
                  rotate_left
                  · obtain ⟨q1, q2, q3⟩ := hw; go_simp <;> with_reducible rfl
                  try simp only [Act.put, List.setIfInBounds_toArray, List.set_cons_zero, List.set_cons_succ]
                  refine rgs_t (v := ?_) (some 68) 15 (by kernel_rfl) rfl rfl (by assumption) (.inl ⟨by rfl, fun w' hw => ?_⟩) ?_
                  rotate_left
                  · obtain ⟨q1, q2, q3⟩ := hw; go_simp <;> with_reducible rfl
                  try simp only [Act.put, List.setIfInBounds_toArray, List.set_cons_zero, List.set_cons_succ]
                  refine rgs_t (v := ?_) (some 69) 16 (by kernel_rfl) rfl rfl (by assumption) (.inl ⟨by rfl, fun w' hw => ?_⟩) ?_
                  rotate_left
                  · obtain ⟨q1, q2, q3⟩ := hw; go_simp <;> with_reducible rfl
                  try simp only [Act.put, List.setIfInBounds_toArray, List.set_cons_zero, List.set_cons_succ]
                  refine rgs_t (v := ?_) (some 70) 17 (by kernel_rfl) rfl rfl (by assumption) (.inl ⟨by rfl, fun w' hw => ?_⟩) ?_
                  rotate_left
                  · obtain ⟨q1, q2, q3⟩ := hw; go_simp <;> with_reducible rfl
                  try simp only [Act.put, List.setIfInBounds_toArray, List.set_cons_zero, List.set_cons_succ]
                  refine rgs_t (v := ?_) (some 71) 18 (by kernel_rfl) rfl rfl (by assumption) (.inl ⟨by rfl, fun w' hw => ?_⟩) ?_
                  rotate_left
                  · obtain ⟨q1, q2, q3⟩ := hw; go_simp <;> with_reducible rfl
                  try simp only [Act.put, List.setIfInBounds_toArray, List.set_cons_zero, List.set_cons_succ]
                  refine rgs_t (v := ?_) (some 72) 19 (by kernel_rfl) rfl rfl (by assumption) (.inl ⟨by rfl, fun w' hw => ?_⟩) ?_
                  rotate_left
                  · obtain ⟨q1, q2, q3⟩ := hw; go_simp <;> with_reducible rfl
                  try simp only [Act.put, List.setIfInBounds_toArray, List.set_cons_zero, List.set_cons_succ]
                  refine rgs_t (v := ?_) (some 73) 20 (by kernel_rfl) rfl rfl (by assumption) (.inl ⟨by rfl, fun w' hw => ?_⟩) ?_
                  rotate_left
                  · obtain ⟨q1, q2, q3⟩ := hw; go_simp <;> with_reducible rfl
                  try simp only [Act.put, List.setIfInBounds_toArray, List.set_cons_zero, List.set_cons_succ]
                  refine rgs_t (v := ?_) (some 74) 21 (by kernel_rfl) rfl rfl (by assumption) (.inl ⟨by rfl, fun w' hw => ?_⟩) ?_
                  rotate_left
                  · obtain ⟨q1, q2, q3⟩ := hw; go_simp <;> with_reducible rfl
                  try simp only [Act.put, List.setIfInBounds_toArray, List.set_cons_zero, List.set_cons_succ]
                  refine rgs_t (v := ?_) (some 75) 22 (by kernel_rfl) rfl rfl (by assumption) (.inl ⟨by rfl, fun w' hw => ?_⟩) ?_
                  rotate_left
                  · obtain ⟨q1, q2, q3⟩ := hw; go_simp <;> with_reducible rfl
                  try simp only [Act.put, List.setIfInBounds_toArray, List.set_cons_zero, List.set_cons_succ]
                  refine rgs_c 23 (by kernel_rfl) rfl (by rfl) (fun K hK => ?_)
                  go_simp
                  refine (HLM.out _).mono ?_
                  rintro e x6 ⟨rfl, rfl⟩
                  refine hK _ _ hS5 ?_
                  clear hK K
                  try simp only [Act.put, List.setIfInBounds_toArray, List.set_cons_zero, List.set_cons_succ]
                  refine rgs_t (v := ?_) (some 77) 24 (by kernel_rfl) rfl rfl (by assumption) (.inl ⟨by rfl, fun w' hw => ?_⟩) ?_
                  rotate_left
                  · obtain ⟨q1, q2, q3⟩ := hw; go_simp <;> with_reducible rfl
                  try simp only [Act.put, List.setIfInBounds_toArray, List.set_cons_zero, List.set_cons_succ]
                  refine rgs_t (v := ?_) (some 78) 25 (by kernel_rfl) rfl rfl (by assumption) (.inl ⟨by rfl, fun w' hw => ?_⟩) ?_
                  rotate_left
                  · obtain ⟨q1, q2, q3⟩ := hw; go_simp <;> with_reducible rfl
                  try simp only [Act.put, List.setIfInBounds_toArray, List.set_cons_zero, List.set_cons_succ]
                  refine rgs_t (v := ?_) (some 79) 26 (by kernel_rfl) rfl rfl (by assumption) (.inl ⟨by rfl, fun w' hw => ?_⟩) ?_
                  rotate_left
                  · obtain ⟨q1, q2, q3⟩ := hw; go_simp <;> with_reducible rfl
                  try simp only [Act.put, List.setIfInBounds_toArray, List.set_cons_zero, List.set_cons_succ]
                  refine rgs_d (by kernel_rfl) ?_
                  go_wp2_with fail
                  go_roundw
                  case rel => exact ⟨k + 1, by have := HLT.out; omega, by go_num, HN2.out, HBD.out, HBR.out⟩
                  case measure => simp [intOf]; have := HLT.out; omega
      · obtain rfl : k = 4 := by omega
        exact absurd (And.intro HHD.out HALL.out) HBAD.out
end Go.Proofs.Ytipcnpnfdoainaa

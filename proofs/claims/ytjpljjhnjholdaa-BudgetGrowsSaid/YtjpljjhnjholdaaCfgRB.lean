/- Layer 17: contracts of the reference's Check and Windows (printed by cfgr.py). -/
import Derived.Test.YtjpljjhnjholdaaCfgB
import Derived.Deep.DeepCutAuto
set_option linter.unusedVariables false
set_option linter.unusedSimpArgs false
namespace Go.Proofs.Ytjpljjhnjholdaa
open Go.RowKit

set_option maxRecDepth 100000 in
set_option maxHeartbeats 4000000 in
theorem windows_any (w0f w0c w1f w1c w2f w2c w3f w3c z : Int) (w : World) (hz : (if (cntB w0c && cntB w1c && cntB w2c && cntB w3c) = false then 4 else if (fstB w0f w0c && fstB w1f w1c && fstB w2f w2c && fstB w3f w3c) = false then 7 else 0) = z) :
    Calls Try.prog 27 #[.agg #[.int .i64 w0f, .int .i64 w0c, .int .i64 w1f, .int .i64 w1c, .int .i64 w2f, .int .i64 w2c, .int .i64 w3f, .int .i64 w3c]] w fun e w' => e = .returned (.int .i64 z) ∧ Below w.heap.size w w' := by
  obtain ⟨o0, ho0⟩ : ∃ r, cntB w0c = r := ⟨_, rfl⟩
  have HO0 := Lib.hid (fun w => rin_any w0c 0 512 o0 ho0 w)
  obtain ⟨f0, hf0⟩ : ∃ r, fstB w0f w0c = r := ⟨_, rfl⟩
  have HF0 := Lib.hid (fun (h : 0 < w0c) (m : Int) (hm : 65536 - w0c = m) w => rin_any w0f 0 m f0 (by rw [fstB, if_pos h, hm] at hf0; exact hf0) w)
  have HN0 : w0c = 0 → decide (w0f = 0) = f0 := fun h => by rw [← hf0, fstB, if_neg (by omega), inB, decide_eq_decide]; omega
  have HN0 := Lib.hid HN0
  obtain ⟨o1, ho1⟩ : ∃ r, cntB w1c = r := ⟨_, rfl⟩
  have HO1 := Lib.hid (fun w => rin_any w1c 0 512 o1 ho1 w)
  obtain ⟨f1, hf1⟩ : ∃ r, fstB w1f w1c = r := ⟨_, rfl⟩
  have HF1 := Lib.hid (fun (h : 0 < w1c) (m : Int) (hm : 65536 - w1c = m) w => rin_any w1f 0 m f1 (by rw [fstB, if_pos h, hm] at hf1; exact hf1) w)
  have HN1 : w1c = 0 → decide (w1f = 0) = f1 := fun h => by rw [← hf1, fstB, if_neg (by omega), inB, decide_eq_decide]; omega
  have HN1 := Lib.hid HN1
  obtain ⟨o2, ho2⟩ : ∃ r, cntB w2c = r := ⟨_, rfl⟩
  have HO2 := Lib.hid (fun w => rin_any w2c 0 512 o2 ho2 w)
  obtain ⟨f2, hf2⟩ : ∃ r, fstB w2f w2c = r := ⟨_, rfl⟩
  have HF2 := Lib.hid (fun (h : 0 < w2c) (m : Int) (hm : 65536 - w2c = m) w => rin_any w2f 0 m f2 (by rw [fstB, if_pos h, hm] at hf2; exact hf2) w)
  have HN2 : w2c = 0 → decide (w2f = 0) = f2 := fun h => by rw [← hf2, fstB, if_neg (by omega), inB, decide_eq_decide]; omega
  have HN2 := Lib.hid HN2
  obtain ⟨o3, ho3⟩ : ∃ r, cntB w3c = r := ⟨_, rfl⟩
  have HO3 := Lib.hid (fun w => rin_any w3c 0 512 o3 ho3 w)
  obtain ⟨f3, hf3⟩ : ∃ r, fstB w3f w3c = r := ⟨_, rfl⟩
  have HF3 := Lib.hid (fun (h : 0 < w3c) (m : Int) (hm : 65536 - w3c = m) w => rin_any w3f 0 m f3 (by rw [fstB, if_pos h, hm] at hf3; exact hf3) w)
  have HN3 : w3c = 0 → decide (w3f = 0) = f3 := fun h => by rw [← hf3, fstB, if_neg (by omega), inB, decide_eq_decide]; omega
  have HN3 := Lib.hid HN3
  rw [ho0, ho1, ho2, ho3, hf0, hf1, hf2, hf3] at hz
  have HZ := Lib.hid hz
  have HCB0 := Lib.hid ho0
  have HCB1 := Lib.hid ho1
  have HCB2 := Lib.hid ho2
  have HCB3 := Lib.hid ho3
  clear hz ho0 ho1 ho2 ho3 hf0 hf1 hf2 hf3
  go_enter Try.func27, Try.ntmps27
  go_wp2_with fail
  have HB := Lib.hid (Box.alloc_ (w := w) (cs := #[.int .i64 w0f, .int .i64 w0c, .int .i64 w1f, .int .i64 w1c, .int .i64 w2f, .int .i64 w2c, .int .i64 w3f, .int .i64 w3c]) (e := 31))
  have hbw : Below w.heap.size w (w.alloc (.cells #[.int .i64 w0f, .int .i64 w0c, .int .i64 w1f, .int .i64 w1c, .int .i64 w2f, .int .i64 w2c, .int .i64 w3f, .int .i64 w3c] 31)) := (Below.refl _ _).alloc (Nat.le_refl _) _
  obtain ⟨W1, hW1⟩ : ∃ W1, w.alloc (.cells #[.int .i64 w0f, .int .i64 w0c, .int .i64 w1f, .int .i64 w1c, .int .i64 w2f, .int .i64 w2c, .int .i64 w3f, .int .i64 w3c] 31) = W1 := ⟨_, rfl⟩
  rw [hW1] at HB hbw ⊢
  clear hW1
  go_loopw [3] (fun i wr => ((i = .int .i64 0) ∨ (i = .int .i64 1 ∧ o0 = true) ∨ (i = .int .i64 2 ∧ o0 = true ∧ o1 = true) ∨ (i = .int .i64 3 ∧ o0 = true ∧ o1 = true ∧ o2 = true) ∨ (i = .int .i64 4 ∧ o0 = true ∧ o1 = true ∧ o2 = true ∧ o3 = true)) ∧ wr = W1) (fun i _ => 4 - (intOf i).toNat)
  case atStart => exact ⟨.inl rfl, rfl⟩
  case round =>
    obtain ⟨hrel, rfl⟩ := hrel
    obtain ⟨q1, z1, l1⟩ := HB.out
    rcases hrel with rfl | ⟨rfl, rfl⟩ | ⟨rfl, rfl, rfl⟩ | ⟨rfl, rfl, rfl, rfl⟩ | ⟨rfl, rfl, rfl, rfl, rfl⟩
    · have y0 : wr.cell? ⟨w.heap.size, 1, none⟩ = some (.int .i64 w0c) := q1 1
      go_wp2_with fail
      refine (HO0.out _).mono ?_
      rintro e wx ⟨rfl, rfl⟩
      cases o0
      · have hz := HZ.out
        simp only [Bool.and_false, Bool.false_and, Bool.and_true, Bool.true_and, if_true] at hz
        subst hz
        go_wp2
        go_ret
        exact ⟨rfl, hbw⟩
      · go_wp2_with fail
        go_roundw
        case rel => first | exact ⟨.inr (.inl ⟨rfl, (by first | rfl | trivial)⟩), by first | rfl | trivial⟩ | ((repeat apply Exists.intro); refine ⟨?_, rfl⟩; exact ⟨.inr (.inl ⟨rfl, (by first | rfl | trivial)⟩), by first | rfl | trivial⟩)
        case measure => simp [intOf]
    · have y0 : wr.cell? ⟨w.heap.size, 3, none⟩ = some (.int .i64 w1c) := q1 3
      go_wp2_with fail
      refine (HO1.out _).mono ?_
      rintro e wx ⟨rfl, rfl⟩
      cases o1
      · have hz := HZ.out
        simp only [Bool.and_false, Bool.false_and, Bool.and_true, Bool.true_and, if_true] at hz
        subst hz
        go_wp2
        go_ret
        exact ⟨rfl, hbw⟩
      · go_wp2_with fail
        go_roundw
        case rel => first | exact ⟨.inr (.inr (.inl ⟨rfl, (by first | rfl | trivial), (by first | rfl | trivial)⟩)), by first | rfl | trivial⟩ | ((repeat apply Exists.intro); refine ⟨?_, rfl⟩; exact ⟨.inr (.inr (.inl ⟨rfl, (by first | rfl | trivial), (by first | rfl | trivial)⟩)), by first | rfl | trivial⟩)
        case measure => simp [intOf]
    · have y0 : wr.cell? ⟨w.heap.size, 5, none⟩ = some (.int .i64 w2c) := q1 5
      go_wp2_with fail
      refine (HO2.out _).mono ?_
      rintro e wx ⟨rfl, rfl⟩
      cases o2
      · have hz := HZ.out
        simp only [Bool.and_false, Bool.false_and, Bool.and_true, Bool.true_and, if_true] at hz
        subst hz
        go_wp2
        go_ret
        exact ⟨rfl, hbw⟩
      · go_wp2_with fail
        go_roundw
        case rel => first | exact ⟨.inr (.inr (.inr (.inl ⟨rfl, (by first | rfl | trivial), (by first | rfl | trivial), (by first | rfl | trivial)⟩))), by first | rfl | trivial⟩ | ((repeat apply Exists.intro); refine ⟨?_, rfl⟩; exact ⟨.inr (.inr (.inr (.inl ⟨rfl, (by first | rfl | trivial), (by first | rfl | trivial), (by first | rfl | trivial)⟩))), by first | rfl | trivial⟩)
        case measure => simp [intOf]
    · have y0 : wr.cell? ⟨w.heap.size, 7, none⟩ = some (.int .i64 w3c) := q1 7
      go_wp2_with fail
      refine (HO3.out _).mono ?_
      rintro e wx ⟨rfl, rfl⟩
      cases o3
      · have hz := HZ.out
        simp only [Bool.and_false, Bool.false_and, Bool.and_true, Bool.true_and, if_true] at hz
        subst hz
        go_wp2
        go_ret
        exact ⟨rfl, hbw⟩
      · go_wp2_with fail
        go_roundw
        case rel => first | exact ⟨.inr (.inr (.inr (.inr (⟨rfl, (by first | rfl | trivial), (by first | rfl | trivial), (by first | rfl | trivial), (by first | rfl | trivial)⟩)))), by first | rfl | trivial⟩ | ((repeat apply Exists.intro); refine ⟨?_, rfl⟩; exact ⟨.inr (.inr (.inr (.inr (⟨rfl, (by first | rfl | trivial), (by first | rfl | trivial), (by first | rfl | trivial), (by first | rfl | trivial)⟩)))), by first | rfl | trivial⟩)
        case measure => simp [intOf]
    · have hz := HZ.out
      rw [if_neg (by simp)] at hz
      have HZ := Lib.hid hz
      clear hz HO0 HO1 HO2 HO3 z1 l1
      have hc0 : 0 ≤ w0c ∧ w0c ≤ 512 := of_decide_eq_true HCB0.out
      obtain ⟨hc00, hc01⟩ := hc0
      have hc1 : 0 ≤ w1c ∧ w1c ≤ 512 := of_decide_eq_true HCB1.out
      obtain ⟨hc10, hc11⟩ := hc1
      have hc2 : 0 ≤ w2c ∧ w2c ≤ 512 := of_decide_eq_true HCB2.out
      obtain ⟨hc20, hc21⟩ := hc2
      have hc3 : 0 ≤ w3c ∧ w3c ≤ 512 := of_decide_eq_true HCB3.out
      obtain ⟨hc30, hc31⟩ := hc3
      go_wp2_with fail
      obtain ⟨W2, hW2⟩ : ∃ W2 : World, W2 = wr := ⟨_, rfl⟩
      subst hW2
      go_loopw [4] (fun i wr => ((i = .int .i64 0) ∨ (i = .int .i64 1 ∧ f0 = true) ∨ (i = .int .i64 2 ∧ f0 = true ∧ f1 = true) ∨ (i = .int .i64 3 ∧ f0 = true ∧ f1 = true ∧ f2 = true) ∨ (i = .int .i64 4 ∧ f0 = true ∧ f1 = true ∧ f2 = true ∧ f3 = true)) ∧ ∃ z, wr = W2.drewN z) (fun i _ => 4 - (intOf i).toNat)
      case atStart => exact ⟨.inl rfl, 0, rfl⟩
      case round =>
        obtain ⟨hrel, z, rfl⟩ := hrel
        have hbz := below_drewN hbw z
        have hq : ∀ i, (W2.drewN z).cell? ⟨w.heap.size, i, none⟩ = (#[.int .i64 w0f, .int .i64 w0c, .int .i64 w1f, .int .i64 w1c, .int .i64 w2f, .int .i64 w2c, .int .i64 w3f, .int .i64 w3c] : Array Value)[i]? := q1
        clear q1 hbw
        rcases hrel with rfl | ⟨rfl, rfl⟩ | ⟨rfl, rfl, rfl⟩ | ⟨rfl, rfl, rfl, rfl⟩ | ⟨rfl, rfl, rfl, rfl, rfl⟩
        · by_cases hp : 0 < w0c
          · have hd1 : (w0c == 0) = false := by simp; omega
            have hd2 : decide (0 < w0c) = true := by simpa using hp
            go_wp2_with fail
            have hS : (∀ i, (W2.drewN z).drew.cell? ⟨w.heap.size, i, none⟩ = (#[.int .i64 w0f, .int .i64 w0c, .int .i64 w1f, .int .i64 w1c, .int .i64 w2f, .int .i64 w2c, .int .i64 w3f, .int .i64 w3c] : Array Value)[i]?) ∧ True ∧ True := ⟨hq, trivial, trivial⟩
            refine rgs_start (fun w' => (∀ i, w'.cell? ⟨w.heap.size, i, none⟩ = (#[.int .i64 w0f, .int .i64 w0c, .int .i64 w1f, .int .i64 w1c, .int .i64 w2f, .int .i64 w2c, .int .i64 w3f, .int .i64 w3c] : Array Value)[i]?) ∧ True ∧ True) (by kernel_rfl) ?_
            refine rgs_t (v := ?_) (some 19) 0 (by kernel_rfl) rfl rfl (by assumption) (.inl ⟨by rfl, fun w' hw => ?_⟩) ?_
            rotate_left
            · obtain ⟨q1, q2, q3⟩ := hw; go_simp <;> with_reducible rfl
            try simp only [Act.put, List.setIfInBounds_toArray, List.set_cons_zero, List.set_cons_succ]
            refine rgs_t (v := ?_) (some 20) 1 (by kernel_rfl) rfl rfl (by assumption) (.inl ⟨by rfl, fun w' hw => ?_⟩) ?_
            rotate_left
            · obtain ⟨q1, q2, q3⟩ := hw; go_simp <;> with_reducible rfl
            try simp only [Act.put, List.setIfInBounds_toArray, List.set_cons_zero, List.set_cons_succ]
            refine rgs_t (v := ?_) (some 21) 2 (by kernel_rfl) rfl rfl (by assumption) (.inl ⟨by rfl, fun w' hw => ?_⟩) ?_
            rotate_left
            · obtain ⟨q1, q2, q3⟩ := hw; go_simp <;> with_reducible rfl
            try simp only [Act.put, List.setIfInBounds_toArray, List.set_cons_zero, List.set_cons_succ]
            refine rgs_t (v := ?_) (some 22) 3 (by kernel_rfl) rfl rfl (by assumption) (.inl ⟨by rfl, fun w' hw => ?_⟩) ?_
            rotate_left
            · obtain ⟨q1, q2, q3⟩ := hw; go_simp <;> with_reducible rfl
            try simp only [Act.put, List.setIfInBounds_toArray, List.set_cons_zero, List.set_cons_succ]
            refine rgs_t (v := ?_) (some 23) 4 (by kernel_rfl) rfl rfl (by assumption) (.inl ⟨by rfl, fun w' hw => ?_⟩) ?_
            rotate_left
            · obtain ⟨q1, q2, q3⟩ := hw; go_simp <;> with_reducible rfl
            try simp only [Act.put, List.setIfInBounds_toArray, List.set_cons_zero, List.set_cons_succ]
            refine rgs_t (v := ?_) (some 24) 5 (by kernel_rfl) rfl rfl (by assumption) (.inl ⟨by rfl, fun w' hw => ?_⟩) ?_
            rotate_left
            · obtain ⟨q1, q2, q3⟩ := hw; go_simp <;> with_reducible rfl
            try simp only [Act.put, List.setIfInBounds_toArray, List.set_cons_zero, List.set_cons_succ]
            refine rgs_t (some 25) 6 (by kernel_rfl) rfl rfl (by assumption) (.inr ⟨by rfl, rfl⟩) ?_
            try simp only [Act.put, List.setIfInBounds_toArray, List.set_cons_zero, List.set_cons_succ]
            refine rgs_t (some 26) 7 (by kernel_rfl) rfl rfl (by assumption) (.inr ⟨by rfl, rfl⟩) ?_
            try simp only [Act.put, List.setIfInBounds_toArray, List.set_cons_zero, List.set_cons_succ]
            refine rgs_t (some 27) 8 (by kernel_rfl) rfl rfl (by assumption) (.inr ⟨by rfl, rfl⟩) ?_
            try simp only [Act.put, List.setIfInBounds_toArray, List.set_cons_zero, List.set_cons_succ]
            refine rgs_t (some 28) 9 (by kernel_rfl) rfl rfl (by assumption) (.inr ⟨by rfl, rfl⟩) ?_
            try simp only [Act.put, List.setIfInBounds_toArray, List.set_cons_zero, List.set_cons_succ]
            refine rgs_t (some 29) 10 (by kernel_rfl) rfl rfl (by assumption) (.inr ⟨by rfl, rfl⟩) ?_
            try simp only [Act.put, List.setIfInBounds_toArray, List.set_cons_zero, List.set_cons_succ]
            refine rgs_t (v := ?_) (some 30) 11 (by kernel_rfl) rfl rfl (by assumption) (.inl ⟨by rfl, fun w' hw => ?_⟩) ?_
            rotate_left
            · obtain ⟨q1, q2, q3⟩ := hw; go_simp <;> with_reducible rfl
            try simp only [Act.put, List.setIfInBounds_toArray, List.set_cons_zero, List.set_cons_succ]
            refine rgs_t (v := ?_) (some 31) 12 (by kernel_rfl) rfl rfl (by assumption) (.inl ⟨by rfl, fun w' hw => ?_⟩) ?_
            rotate_left
            · obtain ⟨q1, q2, q3⟩ := hw; go_simp <;> with_reducible rfl
            try simp only [Act.put, List.setIfInBounds_toArray, List.set_cons_zero, List.set_cons_succ]
            refine rgs_t (v := ?_) (some 32) 13 (by kernel_rfl) rfl rfl (by assumption) (.inl ⟨by rfl, fun w' hw => ?_⟩) ?_
            rotate_left
            · obtain ⟨q1, q2, q3⟩ := hw; go_simp <;> with_reducible rfl
            try simp only [Act.put, List.setIfInBounds_toArray, List.set_cons_zero, List.set_cons_succ]
            refine rgs_t (v := ?_) (some 33) 14 (by kernel_rfl) rfl rfl (by assumption) (.inl ⟨by rfl, fun w' hw => ?_⟩) ?_
            rotate_left
            · obtain ⟨q1, q2, q3⟩ := hw; go_simp <;> with_reducible rfl
            try simp only [Act.put, List.setIfInBounds_toArray, List.set_cons_zero, List.set_cons_succ]
            refine rgs_t (v := ?_) (some 34) 15 (by kernel_rfl) rfl rfl (by assumption) (.inl ⟨by rfl, fun w' hw => ?_⟩) ?_
            rotate_left
            · obtain ⟨q1, q2, q3⟩ := hw; go_simp <;> with_reducible rfl
            try simp only [Act.put, List.setIfInBounds_toArray, List.set_cons_zero, List.set_cons_succ]
            refine rgs_t (v := ?_) (some 35) 16 (by kernel_rfl) rfl rfl (by assumption) (.inl ⟨by rfl, fun w' hw => ?_⟩) ?_
            rotate_left
            · obtain ⟨q1, q2, q3⟩ := hw; go_simp <;> with_reducible rfl
            try simp only [Act.put, List.setIfInBounds_toArray, List.set_cons_zero, List.set_cons_succ]
            refine rgs_t (v := ?_) (some 36) 17 (by kernel_rfl) rfl rfl (by assumption) (.inl ⟨by rfl, fun w' hw => ?_⟩) ?_
            rotate_left
            · obtain ⟨q1, q2, q3⟩ := hw; go_simp <;> with_reducible rfl
            try simp only [Act.put, List.setIfInBounds_toArray, List.set_cons_zero, List.set_cons_succ]
            refine rgs_t (v := ?_) (some 37) 18 (by kernel_rfl) rfl rfl (by assumption) (.inl ⟨by rfl, fun w' hw => ?_⟩) ?_
            rotate_left
            · obtain ⟨q1, q2, q3⟩ := hw; go_simp <;> with_reducible rfl
            try simp only [Act.put, List.setIfInBounds_toArray, List.set_cons_zero, List.set_cons_succ]
            refine rgs_t (v := ?_) (some 38) 19 (by kernel_rfl) rfl rfl (by assumption) (.inl ⟨by rfl, fun w' hw => ?_⟩) ?_
            rotate_left
            · obtain ⟨q1, q2, q3⟩ := hw; go_simp <;> with_reducible rfl
            try simp only [Act.put, List.setIfInBounds_toArray, List.set_cons_zero, List.set_cons_succ]
            refine rgs_t (v := ?_) (some 39) 20 (by kernel_rfl) rfl rfl (by assumption) (.inl ⟨by rfl, fun w' hw => ?_⟩) ?_
            rotate_left
            · obtain ⟨q1, q2, q3⟩ := hw; go_simp <;> with_reducible rfl
            try simp only [Act.put, List.setIfInBounds_toArray, List.set_cons_zero, List.set_cons_succ]
            refine rgs_t (v := ?_) (some 40) 21 (by kernel_rfl) rfl rfl (by assumption) (.inl ⟨by rfl, fun w' hw => ?_⟩) ?_
            rotate_left
            · obtain ⟨q1, q2, q3⟩ := hw; go_simp <;> with_reducible rfl
            try simp only [Act.put, List.setIfInBounds_toArray, List.set_cons_zero, List.set_cons_succ]
            refine rgs_t (v := ?_) (some 41) 22 (by kernel_rfl) rfl rfl (by assumption) (.inl ⟨by rfl, fun w' hw => ?_⟩) ?_
            rotate_left
            · obtain ⟨q1, q2, q3⟩ := hw; go_simp <;> with_reducible rfl
            try simp only [Act.put, List.setIfInBounds_toArray, List.set_cons_zero, List.set_cons_succ]
            refine rgs_t (v := ?_) (some 42) 23 (by kernel_rfl) rfl rfl (by assumption) (.inl ⟨by rfl, fun w' hw => ?_⟩) ?_
            rotate_left
            · obtain ⟨q1, q2, q3⟩ := hw; go_simp <;> with_reducible rfl
            try simp only [Act.put, List.setIfInBounds_toArray, List.set_cons_zero, List.set_cons_succ]
            refine rgs_t (v := ?_) (some 43) 24 (by kernel_rfl) rfl rfl (by assumption) (.inl ⟨by rfl, fun w' hw => ?_⟩) ?_
            rotate_left
            · obtain ⟨q1, q2, q3⟩ := hw; go_simp <;> with_reducible rfl
            try simp only [Act.put, List.setIfInBounds_toArray, List.set_cons_zero, List.set_cons_succ]
            refine rgs_t (v := ?_) (some 44) 25 (by kernel_rfl) rfl rfl (by assumption) (.inl ⟨by rfl, fun w' hw => ?_⟩) ?_
            rotate_left
            · obtain ⟨q1, q2, q3⟩ := hw; go_simp <;> with_reducible rfl
            try simp only [Act.put, List.setIfInBounds_toArray, List.set_cons_zero, List.set_cons_succ]
            refine rgs_t (v := ?_) (some 45) 26 (by kernel_rfl) rfl rfl (by assumption) (.inl ⟨by rfl, fun w' hw => ?_⟩) ?_
            rotate_left
            · obtain ⟨q1, q2, q3⟩ := hw; go_simp <;> with_reducible rfl
            try simp only [Act.put, List.setIfInBounds_toArray, List.set_cons_zero, List.set_cons_succ]
            refine rgs_t (v := ?_) (some 46) 27 (by kernel_rfl) rfl rfl (by assumption) (.inl ⟨by rfl, fun w' hw => ?_⟩) ?_
            rotate_left
            · obtain ⟨q1, q2, q3⟩ := hw; go_simp <;> with_reducible rfl
            try simp only [Act.put, List.setIfInBounds_toArray, List.set_cons_zero, List.set_cons_succ]
            refine rgs_q (v := ?_) (some 47) 28 (by kernel_rfl) rfl rfl (by assumption) (by rfl) (fun w' hw K hK => ?_) ?_
            rotate_left
            · obtain ⟨q1, q2, q3⟩ := hw
              go_simp
              refine (HF0.out hp _ (by first | rfl | exact (IntWalk.i64_in _ ⟨by omega, by omega⟩).symm) _).mono ?_
              rintro e w1 ⟨rfl, rfl⟩
              exact hK
            try simp only [Act.put, List.setIfInBounds_toArray, List.set_cons_zero, List.set_cons_succ]
            refine rgs_t (v := ?_) (some 48) 29 (by kernel_rfl) rfl rfl (by assumption) (.inl ⟨by rfl, fun w' hw => ?_⟩) ?_
            rotate_left
            · obtain ⟨q1, q2, q3⟩ := hw; go_simp <;> with_reducible rfl
            try simp only [Act.put, List.setIfInBounds_toArray, List.set_cons_zero, List.set_cons_succ]
            refine rgs_t (v := ?_) (some 49) 30 (by kernel_rfl) rfl rfl (by assumption) (.inl ⟨by rfl, fun w' hw => ?_⟩) ?_
            rotate_left
            · obtain ⟨q1, q2, q3⟩ := hw; go_simp <;> with_reducible rfl
            try simp only [Act.put, List.setIfInBounds_toArray, List.set_cons_zero, List.set_cons_succ]
            refine rgs_t (v := ?_) (some 50) 31 (by kernel_rfl) rfl rfl (by assumption) (.inl ⟨by rfl, fun w' hw => ?_⟩) ?_
            rotate_left
            · obtain ⟨q1, q2, q3⟩ := hw; go_simp <;> with_reducible rfl
            try simp only [Act.put, List.setIfInBounds_toArray, List.set_cons_zero, List.set_cons_succ]
            refine rgs_d (by kernel_rfl) ?_
            cases f0
            · have hz := HZ.out
              simp only [Bool.and_false, Bool.false_and, Bool.and_true, Bool.true_and, if_true] at hz
              subst hz
              go_wp2
              go_ret
              exact ⟨rfl, below_drew hbz⟩
            · go_wp2_with fail
              go_roundw
              case rel => first | exact ⟨.inr (.inl ⟨rfl, (by first | rfl | trivial)⟩), z + 1, rfl⟩ | ((repeat apply Exists.intro); refine ⟨?_, rfl⟩; exact ⟨.inr (.inl ⟨rfl, (by first | rfl | trivial)⟩), z + 1, rfl⟩)
              case measure => simp [intOf]
          · have hn := HN0.out (by omega)
            have hd1 : (w0c == 0) = true := by simp; omega
            have hd2 : decide (0 < w0c) = false := by simpa using hp
            by_cases hf : w0f = 0
            · have hd3 : (w0f != 0) = false := by simp [hf]
              obtain rfl : f0 = true := by rw [← hn]; simp [hf]
              clear hn hf
              go_wp2_with fail
              have hS : (∀ i, (W2.drewN z).drew.cell? ⟨w.heap.size, i, none⟩ = (#[.int .i64 w0f, .int .i64 w0c, .int .i64 w1f, .int .i64 w1c, .int .i64 w2f, .int .i64 w2c, .int .i64 w3f, .int .i64 w3c] : Array Value)[i]?) ∧ True ∧ True := ⟨hq, trivial, trivial⟩
              refine rgs_start (fun w' => (∀ i, w'.cell? ⟨w.heap.size, i, none⟩ = (#[.int .i64 w0f, .int .i64 w0c, .int .i64 w1f, .int .i64 w1c, .int .i64 w2f, .int .i64 w2c, .int .i64 w3f, .int .i64 w3c] : Array Value)[i]?) ∧ True ∧ True) (by kernel_rfl) ?_
              refine rgs_t (v := ?_) (some 19) 0 (by kernel_rfl) rfl rfl (by assumption) (.inl ⟨by rfl, fun w' hw => ?_⟩) ?_
              rotate_left
              · obtain ⟨q1, q2, q3⟩ := hw; go_simp <;> with_reducible rfl
              try simp only [Act.put, List.setIfInBounds_toArray, List.set_cons_zero, List.set_cons_succ]
              refine rgs_t (v := ?_) (some 20) 1 (by kernel_rfl) rfl rfl (by assumption) (.inl ⟨by rfl, fun w' hw => ?_⟩) ?_
              rotate_left
              · obtain ⟨q1, q2, q3⟩ := hw; go_simp <;> with_reducible rfl
              try simp only [Act.put, List.setIfInBounds_toArray, List.set_cons_zero, List.set_cons_succ]
              refine rgs_t (v := ?_) (some 21) 2 (by kernel_rfl) rfl rfl (by assumption) (.inl ⟨by rfl, fun w' hw => ?_⟩) ?_
              rotate_left
              · obtain ⟨q1, q2, q3⟩ := hw; go_simp <;> with_reducible rfl
              try simp only [Act.put, List.setIfInBounds_toArray, List.set_cons_zero, List.set_cons_succ]
              refine rgs_t (v := ?_) (some 22) 3 (by kernel_rfl) rfl rfl (by assumption) (.inl ⟨by rfl, fun w' hw => ?_⟩) ?_
              rotate_left
              · obtain ⟨q1, q2, q3⟩ := hw; go_simp <;> with_reducible rfl
              try simp only [Act.put, List.setIfInBounds_toArray, List.set_cons_zero, List.set_cons_succ]
              refine rgs_t (v := ?_) (some 23) 4 (by kernel_rfl) rfl rfl (by assumption) (.inl ⟨by rfl, fun w' hw => ?_⟩) ?_
              rotate_left
              · obtain ⟨q1, q2, q3⟩ := hw; go_simp <;> with_reducible rfl
              try simp only [Act.put, List.setIfInBounds_toArray, List.set_cons_zero, List.set_cons_succ]
              refine rgs_t (v := ?_) (some 24) 5 (by kernel_rfl) rfl rfl (by assumption) (.inl ⟨by rfl, fun w' hw => ?_⟩) ?_
              rotate_left
              · obtain ⟨q1, q2, q3⟩ := hw; go_simp <;> with_reducible rfl
              try simp only [Act.put, List.setIfInBounds_toArray, List.set_cons_zero, List.set_cons_succ]
              refine rgs_t (v := ?_) (some 25) 6 (by kernel_rfl) rfl rfl (by assumption) (.inl ⟨by rfl, fun w' hw => ?_⟩) ?_
              rotate_left
              · obtain ⟨q1, q2, q3⟩ := hw; go_simp <;> with_reducible rfl
              try simp only [Act.put, List.setIfInBounds_toArray, List.set_cons_zero, List.set_cons_succ]
              refine rgs_t (v := ?_) (some 26) 7 (by kernel_rfl) rfl rfl (by assumption) (.inl ⟨by rfl, fun w' hw => ?_⟩) ?_
              rotate_left
              · obtain ⟨q1, q2, q3⟩ := hw; go_simp <;> with_reducible rfl
              try simp only [Act.put, List.setIfInBounds_toArray, List.set_cons_zero, List.set_cons_succ]
              refine rgs_t (v := ?_) (some 27) 8 (by kernel_rfl) rfl rfl (by assumption) (.inl ⟨by rfl, fun w' hw => ?_⟩) ?_
              rotate_left
              · obtain ⟨q1, q2, q3⟩ := hw; go_simp <;> with_reducible rfl
              try simp only [Act.put, List.setIfInBounds_toArray, List.set_cons_zero, List.set_cons_succ]
              refine rgs_t (v := ?_) (some 28) 9 (by kernel_rfl) rfl rfl (by assumption) (.inl ⟨by rfl, fun w' hw => ?_⟩) ?_
              rotate_left
              · obtain ⟨q1, q2, q3⟩ := hw; go_simp <;> with_reducible rfl
              try simp only [Act.put, List.setIfInBounds_toArray, List.set_cons_zero, List.set_cons_succ]
              refine rgs_t (v := ?_) (some 29) 10 (by kernel_rfl) rfl rfl (by assumption) (.inl ⟨by rfl, fun w' hw => ?_⟩) ?_
              rotate_left
              · obtain ⟨q1, q2, q3⟩ := hw; go_simp <;> with_reducible rfl
              try simp only [Act.put, List.setIfInBounds_toArray, List.set_cons_zero, List.set_cons_succ]
              refine rgs_t (v := ?_) (some 30) 11 (by kernel_rfl) rfl rfl (by assumption) (.inl ⟨by rfl, fun w' hw => ?_⟩) ?_
              rotate_left
              · obtain ⟨q1, q2, q3⟩ := hw; go_simp <;> with_reducible rfl
              try simp only [Act.put, List.setIfInBounds_toArray, List.set_cons_zero, List.set_cons_succ]
              refine rgs_t (v := ?_) (some 31) 12 (by kernel_rfl) rfl rfl (by assumption) (.inl ⟨by rfl, fun w' hw => ?_⟩) ?_
              rotate_left
              · obtain ⟨q1, q2, q3⟩ := hw; go_simp <;> with_reducible rfl
              try simp only [Act.put, List.setIfInBounds_toArray, List.set_cons_zero, List.set_cons_succ]
              refine rgs_t (v := ?_) (some 32) 13 (by kernel_rfl) rfl rfl (by assumption) (.inl ⟨by rfl, fun w' hw => ?_⟩) ?_
              rotate_left
              · obtain ⟨q1, q2, q3⟩ := hw; go_simp <;> with_reducible rfl
              try simp only [Act.put, List.setIfInBounds_toArray, List.set_cons_zero, List.set_cons_succ]
              refine rgs_t (v := ?_) (some 33) 14 (by kernel_rfl) rfl rfl (by assumption) (.inl ⟨by rfl, fun w' hw => ?_⟩) ?_
              rotate_left
              · obtain ⟨q1, q2, q3⟩ := hw; go_simp <;> with_reducible rfl
              try simp only [Act.put, List.setIfInBounds_toArray, List.set_cons_zero, List.set_cons_succ]
              refine rgs_t (v := ?_) (some 34) 15 (by kernel_rfl) rfl rfl (by assumption) (.inl ⟨by rfl, fun w' hw => ?_⟩) ?_
              rotate_left
              · obtain ⟨q1, q2, q3⟩ := hw; go_simp <;> with_reducible rfl
              try simp only [Act.put, List.setIfInBounds_toArray, List.set_cons_zero, List.set_cons_succ]
              refine rgs_t (v := ?_) (some 35) 16 (by kernel_rfl) rfl rfl (by assumption) (.inl ⟨by rfl, fun w' hw => ?_⟩) ?_
              rotate_left
              · obtain ⟨q1, q2, q3⟩ := hw; go_simp <;> with_reducible rfl
              try simp only [Act.put, List.setIfInBounds_toArray, List.set_cons_zero, List.set_cons_succ]
              refine rgs_t (v := ?_) (some 36) 17 (by kernel_rfl) rfl rfl (by assumption) (.inl ⟨by rfl, fun w' hw => ?_⟩) ?_
              rotate_left
              · obtain ⟨q1, q2, q3⟩ := hw; go_simp <;> with_reducible rfl
              try simp only [Act.put, List.setIfInBounds_toArray, List.set_cons_zero, List.set_cons_succ]
              refine rgs_t (v := ?_) (some 37) 18 (by kernel_rfl) rfl rfl (by assumption) (.inl ⟨by rfl, fun w' hw => ?_⟩) ?_
              rotate_left
              · obtain ⟨q1, q2, q3⟩ := hw; go_simp <;> with_reducible rfl
              try simp only [Act.put, List.setIfInBounds_toArray, List.set_cons_zero, List.set_cons_succ]
              refine rgs_t (some 38) 19 (by kernel_rfl) rfl rfl (by assumption) (.inr ⟨by rfl, rfl⟩) ?_
              try simp only [Act.put, List.setIfInBounds_toArray, List.set_cons_zero, List.set_cons_succ]
              refine rgs_t (some 39) 20 (by kernel_rfl) rfl rfl (by assumption) (.inr ⟨by rfl, rfl⟩) ?_
              try simp only [Act.put, List.setIfInBounds_toArray, List.set_cons_zero, List.set_cons_succ]
              refine rgs_t (some 40) 21 (by kernel_rfl) rfl rfl (by assumption) (.inr ⟨by rfl, rfl⟩) ?_
              try simp only [Act.put, List.setIfInBounds_toArray, List.set_cons_zero, List.set_cons_succ]
              refine rgs_t (some 41) 22 (by kernel_rfl) rfl rfl (by assumption) (.inr ⟨by rfl, rfl⟩) ?_
              try simp only [Act.put, List.setIfInBounds_toArray, List.set_cons_zero, List.set_cons_succ]
              refine rgs_t (some 42) 23 (by kernel_rfl) rfl rfl (by assumption) (.inr ⟨by rfl, rfl⟩) ?_
              try simp only [Act.put, List.setIfInBounds_toArray, List.set_cons_zero, List.set_cons_succ]
              refine rgs_t (some 43) 24 (by kernel_rfl) rfl rfl (by assumption) (.inr ⟨by rfl, rfl⟩) ?_
              try simp only [Act.put, List.setIfInBounds_toArray, List.set_cons_zero, List.set_cons_succ]
              refine rgs_t (some 44) 25 (by kernel_rfl) rfl rfl (by assumption) (.inr ⟨by rfl, rfl⟩) ?_
              try simp only [Act.put, List.setIfInBounds_toArray, List.set_cons_zero, List.set_cons_succ]
              refine rgs_t (some 45) 26 (by kernel_rfl) rfl rfl (by assumption) (.inr ⟨by rfl, rfl⟩) ?_
              try simp only [Act.put, List.setIfInBounds_toArray, List.set_cons_zero, List.set_cons_succ]
              refine rgs_t (some 46) 27 (by kernel_rfl) rfl rfl (by assumption) (.inr ⟨by rfl, rfl⟩) ?_
              try simp only [Act.put, List.setIfInBounds_toArray, List.set_cons_zero, List.set_cons_succ]
              refine rgs_t (some 47) 28 (by kernel_rfl) rfl rfl (by assumption) (.inr ⟨by rfl, rfl⟩) ?_
              try simp only [Act.put, List.setIfInBounds_toArray, List.set_cons_zero, List.set_cons_succ]
              refine rgs_t (some 48) 29 (by kernel_rfl) rfl rfl (by assumption) (.inr ⟨by rfl, rfl⟩) ?_
              try simp only [Act.put, List.setIfInBounds_toArray, List.set_cons_zero, List.set_cons_succ]
              refine rgs_t (v := ?_) (some 49) 30 (by kernel_rfl) rfl rfl (by assumption) (.inl ⟨by rfl, fun w' hw => ?_⟩) ?_
              rotate_left
              · obtain ⟨q1, q2, q3⟩ := hw; go_simp <;> with_reducible rfl
              try simp only [Act.put, List.setIfInBounds_toArray, List.set_cons_zero, List.set_cons_succ]
              refine rgs_t (v := ?_) (some 50) 31 (by kernel_rfl) rfl rfl (by assumption) (.inl ⟨by rfl, fun w' hw => ?_⟩) ?_
              rotate_left
              · obtain ⟨q1, q2, q3⟩ := hw; go_simp <;> with_reducible rfl
              try simp only [Act.put, List.setIfInBounds_toArray, List.set_cons_zero, List.set_cons_succ]
              refine rgs_d (by kernel_rfl) ?_
              go_wp2_with fail
              go_roundw
              case rel => first | exact ⟨.inr (.inl ⟨rfl, (by first | rfl | trivial)⟩), z + 1, rfl⟩ | ((repeat apply Exists.intro); refine ⟨?_, rfl⟩; exact ⟨.inr (.inl ⟨rfl, (by first | rfl | trivial)⟩), z + 1, rfl⟩)
              case measure => simp [intOf]
            · have hd3 : (w0f != 0) = true := by simp [hf]
              obtain rfl : f0 = false := by rw [← hn]; simp [hf]
              clear hn hf
              go_wp2_with fail
              have hS : (∀ i, (W2.drewN z).drew.cell? ⟨w.heap.size, i, none⟩ = (#[.int .i64 w0f, .int .i64 w0c, .int .i64 w1f, .int .i64 w1c, .int .i64 w2f, .int .i64 w2c, .int .i64 w3f, .int .i64 w3c] : Array Value)[i]?) ∧ True ∧ True := ⟨hq, trivial, trivial⟩
              refine rgs_start (fun w' => (∀ i, w'.cell? ⟨w.heap.size, i, none⟩ = (#[.int .i64 w0f, .int .i64 w0c, .int .i64 w1f, .int .i64 w1c, .int .i64 w2f, .int .i64 w2c, .int .i64 w3f, .int .i64 w3c] : Array Value)[i]?) ∧ True ∧ True) (by kernel_rfl) ?_
              refine rgs_t (v := ?_) (some 19) 0 (by kernel_rfl) rfl rfl (by assumption) (.inl ⟨by rfl, fun w' hw => ?_⟩) ?_
              rotate_left
              · obtain ⟨q1, q2, q3⟩ := hw; go_simp <;> with_reducible rfl
              try simp only [Act.put, List.setIfInBounds_toArray, List.set_cons_zero, List.set_cons_succ]
              refine rgs_t (v := ?_) (some 20) 1 (by kernel_rfl) rfl rfl (by assumption) (.inl ⟨by rfl, fun w' hw => ?_⟩) ?_
              rotate_left
              · obtain ⟨q1, q2, q3⟩ := hw; go_simp <;> with_reducible rfl
              try simp only [Act.put, List.setIfInBounds_toArray, List.set_cons_zero, List.set_cons_succ]
              refine rgs_t (v := ?_) (some 21) 2 (by kernel_rfl) rfl rfl (by assumption) (.inl ⟨by rfl, fun w' hw => ?_⟩) ?_
              rotate_left
              · obtain ⟨q1, q2, q3⟩ := hw; go_simp <;> with_reducible rfl
              try simp only [Act.put, List.setIfInBounds_toArray, List.set_cons_zero, List.set_cons_succ]
              refine rgs_t (v := ?_) (some 22) 3 (by kernel_rfl) rfl rfl (by assumption) (.inl ⟨by rfl, fun w' hw => ?_⟩) ?_
              rotate_left
              · obtain ⟨q1, q2, q3⟩ := hw; go_simp <;> with_reducible rfl
              try simp only [Act.put, List.setIfInBounds_toArray, List.set_cons_zero, List.set_cons_succ]
              refine rgs_t (v := ?_) (some 23) 4 (by kernel_rfl) rfl rfl (by assumption) (.inl ⟨by rfl, fun w' hw => ?_⟩) ?_
              rotate_left
              · obtain ⟨q1, q2, q3⟩ := hw; go_simp <;> with_reducible rfl
              try simp only [Act.put, List.setIfInBounds_toArray, List.set_cons_zero, List.set_cons_succ]
              refine rgs_t (v := ?_) (some 24) 5 (by kernel_rfl) rfl rfl (by assumption) (.inl ⟨by rfl, fun w' hw => ?_⟩) ?_
              rotate_left
              · obtain ⟨q1, q2, q3⟩ := hw; go_simp <;> with_reducible rfl
              try simp only [Act.put, List.setIfInBounds_toArray, List.set_cons_zero, List.set_cons_succ]
              refine rgs_t (v := ?_) (some 25) 6 (by kernel_rfl) rfl rfl (by assumption) (.inl ⟨by rfl, fun w' hw => ?_⟩) ?_
              rotate_left
              · obtain ⟨q1, q2, q3⟩ := hw; go_simp <;> with_reducible rfl
              try simp only [Act.put, List.setIfInBounds_toArray, List.set_cons_zero, List.set_cons_succ]
              refine rgs_t (v := ?_) (some 26) 7 (by kernel_rfl) rfl rfl (by assumption) (.inl ⟨by rfl, fun w' hw => ?_⟩) ?_
              rotate_left
              · obtain ⟨q1, q2, q3⟩ := hw; go_simp <;> with_reducible rfl
              try simp only [Act.put, List.setIfInBounds_toArray, List.set_cons_zero, List.set_cons_succ]
              refine rgs_t (v := ?_) (some 27) 8 (by kernel_rfl) rfl rfl (by assumption) (.inl ⟨by rfl, fun w' hw => ?_⟩) ?_
              rotate_left
              · obtain ⟨q1, q2, q3⟩ := hw; go_simp <;> with_reducible rfl
              try simp only [Act.put, List.setIfInBounds_toArray, List.set_cons_zero, List.set_cons_succ]
              refine rgs_t (v := ?_) (some 28) 9 (by kernel_rfl) rfl rfl (by assumption) (.inl ⟨by rfl, fun w' hw => ?_⟩) ?_
              rotate_left
              · obtain ⟨q1, q2, q3⟩ := hw; go_simp <;> with_reducible rfl
              try simp only [Act.put, List.setIfInBounds_toArray, List.set_cons_zero, List.set_cons_succ]
              refine rgs_t (v := ?_) (some 29) 10 (by kernel_rfl) rfl rfl (by assumption) (.inl ⟨by rfl, fun w' hw => ?_⟩) ?_
              rotate_left
              · obtain ⟨q1, q2, q3⟩ := hw; go_simp <;> with_reducible rfl
              try simp only [Act.put, List.setIfInBounds_toArray, List.set_cons_zero, List.set_cons_succ]
              refine rgs_t (v := ?_) (some 30) 11 (by kernel_rfl) rfl rfl (by assumption) (.inl ⟨by rfl, fun w' hw => ?_⟩) ?_
              rotate_left
              · obtain ⟨q1, q2, q3⟩ := hw; go_simp <;> with_reducible rfl
              try simp only [Act.put, List.setIfInBounds_toArray, List.set_cons_zero, List.set_cons_succ]
              refine rgs_t (v := ?_) (some 31) 12 (by kernel_rfl) rfl rfl (by assumption) (.inl ⟨by rfl, fun w' hw => ?_⟩) ?_
              rotate_left
              · obtain ⟨q1, q2, q3⟩ := hw; go_simp <;> with_reducible rfl
              try simp only [Act.put, List.setIfInBounds_toArray, List.set_cons_zero, List.set_cons_succ]
              refine rgs_t (some 32) 13 (by kernel_rfl) rfl rfl (by assumption) (.inr ⟨by rfl, rfl⟩) ?_
              try simp only [Act.put, List.setIfInBounds_toArray, List.set_cons_zero, List.set_cons_succ]
              refine rgs_t (some 33) 14 (by kernel_rfl) rfl rfl (by assumption) (.inr ⟨by rfl, rfl⟩) ?_
              try simp only [Act.put, List.setIfInBounds_toArray, List.set_cons_zero, List.set_cons_succ]
              refine rgs_t (some 34) 15 (by kernel_rfl) rfl rfl (by assumption) (.inr ⟨by rfl, rfl⟩) ?_
              try simp only [Act.put, List.setIfInBounds_toArray, List.set_cons_zero, List.set_cons_succ]
              refine rgs_t (some 35) 16 (by kernel_rfl) rfl rfl (by assumption) (.inr ⟨by rfl, rfl⟩) ?_
              try simp only [Act.put, List.setIfInBounds_toArray, List.set_cons_zero, List.set_cons_succ]
              refine rgs_t (some 36) 17 (by kernel_rfl) rfl rfl (by assumption) (.inr ⟨by rfl, rfl⟩) ?_
              try simp only [Act.put, List.setIfInBounds_toArray, List.set_cons_zero, List.set_cons_succ]
              refine rgs_t (some 37) 18 (by kernel_rfl) rfl rfl (by assumption) (.inr ⟨by rfl, rfl⟩) ?_
              try simp only [Act.put, List.setIfInBounds_toArray, List.set_cons_zero, List.set_cons_succ]
              refine rgs_t (some 38) 19 (by kernel_rfl) rfl rfl (by assumption) (.inr ⟨by rfl, rfl⟩) ?_
              try simp only [Act.put, List.setIfInBounds_toArray, List.set_cons_zero, List.set_cons_succ]
              refine rgs_t (some 39) 20 (by kernel_rfl) rfl rfl (by assumption) (.inr ⟨by rfl, rfl⟩) ?_
              try simp only [Act.put, List.setIfInBounds_toArray, List.set_cons_zero, List.set_cons_succ]
              refine rgs_t (some 40) 21 (by kernel_rfl) rfl rfl (by assumption) (.inr ⟨by rfl, rfl⟩) ?_
              try simp only [Act.put, List.setIfInBounds_toArray, List.set_cons_zero, List.set_cons_succ]
              refine rgs_t (some 41) 22 (by kernel_rfl) rfl rfl (by assumption) (.inr ⟨by rfl, rfl⟩) ?_
              try simp only [Act.put, List.setIfInBounds_toArray, List.set_cons_zero, List.set_cons_succ]
              refine rgs_t (some 42) 23 (by kernel_rfl) rfl rfl (by assumption) (.inr ⟨by rfl, rfl⟩) ?_
              try simp only [Act.put, List.setIfInBounds_toArray, List.set_cons_zero, List.set_cons_succ]
              refine rgs_t (some 43) 24 (by kernel_rfl) rfl rfl (by assumption) (.inr ⟨by rfl, rfl⟩) ?_
              try simp only [Act.put, List.setIfInBounds_toArray, List.set_cons_zero, List.set_cons_succ]
              refine rgs_t (some 44) 25 (by kernel_rfl) rfl rfl (by assumption) (.inr ⟨by rfl, rfl⟩) ?_
              try simp only [Act.put, List.setIfInBounds_toArray, List.set_cons_zero, List.set_cons_succ]
              refine rgs_t (some 45) 26 (by kernel_rfl) rfl rfl (by assumption) (.inr ⟨by rfl, rfl⟩) ?_
              try simp only [Act.put, List.setIfInBounds_toArray, List.set_cons_zero, List.set_cons_succ]
              refine rgs_t (some 46) 27 (by kernel_rfl) rfl rfl (by assumption) (.inr ⟨by rfl, rfl⟩) ?_
              try simp only [Act.put, List.setIfInBounds_toArray, List.set_cons_zero, List.set_cons_succ]
              refine rgs_t (some 47) 28 (by kernel_rfl) rfl rfl (by assumption) (.inr ⟨by rfl, rfl⟩) ?_
              try simp only [Act.put, List.setIfInBounds_toArray, List.set_cons_zero, List.set_cons_succ]
              refine rgs_t (some 48) 29 (by kernel_rfl) rfl rfl (by assumption) (.inr ⟨by rfl, rfl⟩) ?_
              try simp only [Act.put, List.setIfInBounds_toArray, List.set_cons_zero, List.set_cons_succ]
              refine rgs_t (some 49) 30 (by kernel_rfl) rfl rfl (by assumption) (.inr ⟨by rfl, rfl⟩) ?_
              try simp only [Act.put, List.setIfInBounds_toArray, List.set_cons_zero, List.set_cons_succ]
              refine rgs_t (v := ?_) (some 50) 31 (by kernel_rfl) rfl rfl (by assumption) (.inl ⟨by rfl, fun w' hw => ?_⟩) ?_
              rotate_left
              · obtain ⟨q1, q2, q3⟩ := hw; go_simp <;> with_reducible rfl
              try simp only [Act.put, List.setIfInBounds_toArray, List.set_cons_zero, List.set_cons_succ]
              refine rgs_d (by kernel_rfl) ?_
              have hz := HZ.out
              simp only [Bool.and_false, Bool.false_and, Bool.and_true, Bool.true_and, if_true] at hz
              subst hz
              go_wp2
              go_ret
              exact ⟨rfl, below_drew hbz⟩
        · by_cases hp : 0 < w1c
          · have hd1 : (w1c == 0) = false := by simp; omega
            have hd2 : decide (0 < w1c) = true := by simpa using hp
            go_wp2_with fail
            have hS : (∀ i, (W2.drewN z).drew.cell? ⟨w.heap.size, i, none⟩ = (#[.int .i64 w0f, .int .i64 w0c, .int .i64 w1f, .int .i64 w1c, .int .i64 w2f, .int .i64 w2c, .int .i64 w3f, .int .i64 w3c] : Array Value)[i]?) ∧ True ∧ True := ⟨hq, trivial, trivial⟩
            refine rgs_start (fun w' => (∀ i, w'.cell? ⟨w.heap.size, i, none⟩ = (#[.int .i64 w0f, .int .i64 w0c, .int .i64 w1f, .int .i64 w1c, .int .i64 w2f, .int .i64 w2c, .int .i64 w3f, .int .i64 w3c] : Array Value)[i]?) ∧ True ∧ True) (by kernel_rfl) ?_
            refine rgs_t (v := ?_) (some 19) 0 (by kernel_rfl) rfl rfl (by assumption) (.inl ⟨by rfl, fun w' hw => ?_⟩) ?_
            rotate_left
            · obtain ⟨q1, q2, q3⟩ := hw; go_simp <;> with_reducible rfl
            try simp only [Act.put, List.setIfInBounds_toArray, List.set_cons_zero, List.set_cons_succ]
            refine rgs_t (v := ?_) (some 20) 1 (by kernel_rfl) rfl rfl (by assumption) (.inl ⟨by rfl, fun w' hw => ?_⟩) ?_
            rotate_left
            · obtain ⟨q1, q2, q3⟩ := hw; go_simp <;> with_reducible rfl
            try simp only [Act.put, List.setIfInBounds_toArray, List.set_cons_zero, List.set_cons_succ]
            refine rgs_t (v := ?_) (some 21) 2 (by kernel_rfl) rfl rfl (by assumption) (.inl ⟨by rfl, fun w' hw => ?_⟩) ?_
            rotate_left
            · obtain ⟨q1, q2, q3⟩ := hw; go_simp <;> with_reducible rfl
            try simp only [Act.put, List.setIfInBounds_toArray, List.set_cons_zero, List.set_cons_succ]
            refine rgs_t (v := ?_) (some 22) 3 (by kernel_rfl) rfl rfl (by assumption) (.inl ⟨by rfl, fun w' hw => ?_⟩) ?_
            rotate_left
            · obtain ⟨q1, q2, q3⟩ := hw; go_simp <;> with_reducible rfl
            try simp only [Act.put, List.setIfInBounds_toArray, List.set_cons_zero, List.set_cons_succ]
            refine rgs_t (v := ?_) (some 23) 4 (by kernel_rfl) rfl rfl (by assumption) (.inl ⟨by rfl, fun w' hw => ?_⟩) ?_
            rotate_left
            · obtain ⟨q1, q2, q3⟩ := hw; go_simp <;> with_reducible rfl
            try simp only [Act.put, List.setIfInBounds_toArray, List.set_cons_zero, List.set_cons_succ]
            refine rgs_t (v := ?_) (some 24) 5 (by kernel_rfl) rfl rfl (by assumption) (.inl ⟨by rfl, fun w' hw => ?_⟩) ?_
            rotate_left
            · obtain ⟨q1, q2, q3⟩ := hw; go_simp <;> with_reducible rfl
            try simp only [Act.put, List.setIfInBounds_toArray, List.set_cons_zero, List.set_cons_succ]
            refine rgs_t (some 25) 6 (by kernel_rfl) rfl rfl (by assumption) (.inr ⟨by rfl, rfl⟩) ?_
            try simp only [Act.put, List.setIfInBounds_toArray, List.set_cons_zero, List.set_cons_succ]
            refine rgs_t (some 26) 7 (by kernel_rfl) rfl rfl (by assumption) (.inr ⟨by rfl, rfl⟩) ?_
            try simp only [Act.put, List.setIfInBounds_toArray, List.set_cons_zero, List.set_cons_succ]
            refine rgs_t (some 27) 8 (by kernel_rfl) rfl rfl (by assumption) (.inr ⟨by rfl, rfl⟩) ?_
            try simp only [Act.put, List.setIfInBounds_toArray, List.set_cons_zero, List.set_cons_succ]
            refine rgs_t (some 28) 9 (by kernel_rfl) rfl rfl (by assumption) (.inr ⟨by rfl, rfl⟩) ?_
            try simp only [Act.put, List.setIfInBounds_toArray, List.set_cons_zero, List.set_cons_succ]
            refine rgs_t (some 29) 10 (by kernel_rfl) rfl rfl (by assumption) (.inr ⟨by rfl, rfl⟩) ?_
            try simp only [Act.put, List.setIfInBounds_toArray, List.set_cons_zero, List.set_cons_succ]
            refine rgs_t (v := ?_) (some 30) 11 (by kernel_rfl) rfl rfl (by assumption) (.inl ⟨by rfl, fun w' hw => ?_⟩) ?_
            rotate_left
            · obtain ⟨q1, q2, q3⟩ := hw; go_simp <;> with_reducible rfl
            try simp only [Act.put, List.setIfInBounds_toArray, List.set_cons_zero, List.set_cons_succ]
            refine rgs_t (v := ?_) (some 31) 12 (by kernel_rfl) rfl rfl (by assumption) (.inl ⟨by rfl, fun w' hw => ?_⟩) ?_
            rotate_left
            · obtain ⟨q1, q2, q3⟩ := hw; go_simp <;> with_reducible rfl
            try simp only [Act.put, List.setIfInBounds_toArray, List.set_cons_zero, List.set_cons_succ]
            refine rgs_t (v := ?_) (some 32) 13 (by kernel_rfl) rfl rfl (by assumption) (.inl ⟨by rfl, fun w' hw => ?_⟩) ?_
            rotate_left
            · obtain ⟨q1, q2, q3⟩ := hw; go_simp <;> with_reducible rfl
            try simp only [Act.put, List.setIfInBounds_toArray, List.set_cons_zero, List.set_cons_succ]
            refine rgs_t (v := ?_) (some 33) 14 (by kernel_rfl) rfl rfl (by assumption) (.inl ⟨by rfl, fun w' hw => ?_⟩) ?_
            rotate_left
            · obtain ⟨q1, q2, q3⟩ := hw; go_simp <;> with_reducible rfl
            try simp only [Act.put, List.setIfInBounds_toArray, List.set_cons_zero, List.set_cons_succ]
            refine rgs_t (v := ?_) (some 34) 15 (by kernel_rfl) rfl rfl (by assumption) (.inl ⟨by rfl, fun w' hw => ?_⟩) ?_
            rotate_left
            · obtain ⟨q1, q2, q3⟩ := hw; go_simp <;> with_reducible rfl
            try simp only [Act.put, List.setIfInBounds_toArray, List.set_cons_zero, List.set_cons_succ]
            refine rgs_t (v := ?_) (some 35) 16 (by kernel_rfl) rfl rfl (by assumption) (.inl ⟨by rfl, fun w' hw => ?_⟩) ?_
            rotate_left
            · obtain ⟨q1, q2, q3⟩ := hw; go_simp <;> with_reducible rfl
            try simp only [Act.put, List.setIfInBounds_toArray, List.set_cons_zero, List.set_cons_succ]
            refine rgs_t (v := ?_) (some 36) 17 (by kernel_rfl) rfl rfl (by assumption) (.inl ⟨by rfl, fun w' hw => ?_⟩) ?_
            rotate_left
            · obtain ⟨q1, q2, q3⟩ := hw; go_simp <;> with_reducible rfl
            try simp only [Act.put, List.setIfInBounds_toArray, List.set_cons_zero, List.set_cons_succ]
            refine rgs_t (v := ?_) (some 37) 18 (by kernel_rfl) rfl rfl (by assumption) (.inl ⟨by rfl, fun w' hw => ?_⟩) ?_
            rotate_left
            · obtain ⟨q1, q2, q3⟩ := hw; go_simp <;> with_reducible rfl
            try simp only [Act.put, List.setIfInBounds_toArray, List.set_cons_zero, List.set_cons_succ]
            refine rgs_t (v := ?_) (some 38) 19 (by kernel_rfl) rfl rfl (by assumption) (.inl ⟨by rfl, fun w' hw => ?_⟩) ?_
            rotate_left
            · obtain ⟨q1, q2, q3⟩ := hw; go_simp <;> with_reducible rfl
            try simp only [Act.put, List.setIfInBounds_toArray, List.set_cons_zero, List.set_cons_succ]
            refine rgs_t (v := ?_) (some 39) 20 (by kernel_rfl) rfl rfl (by assumption) (.inl ⟨by rfl, fun w' hw => ?_⟩) ?_
            rotate_left
            · obtain ⟨q1, q2, q3⟩ := hw; go_simp <;> with_reducible rfl
            try simp only [Act.put, List.setIfInBounds_toArray, List.set_cons_zero, List.set_cons_succ]
            refine rgs_t (v := ?_) (some 40) 21 (by kernel_rfl) rfl rfl (by assumption) (.inl ⟨by rfl, fun w' hw => ?_⟩) ?_
            rotate_left
            · obtain ⟨q1, q2, q3⟩ := hw; go_simp <;> with_reducible rfl
            try simp only [Act.put, List.setIfInBounds_toArray, List.set_cons_zero, List.set_cons_succ]
            refine rgs_t (v := ?_) (some 41) 22 (by kernel_rfl) rfl rfl (by assumption) (.inl ⟨by rfl, fun w' hw => ?_⟩) ?_
            rotate_left
            · obtain ⟨q1, q2, q3⟩ := hw; go_simp <;> with_reducible rfl
            try simp only [Act.put, List.setIfInBounds_toArray, List.set_cons_zero, List.set_cons_succ]
            refine rgs_t (v := ?_) (some 42) 23 (by kernel_rfl) rfl rfl (by assumption) (.inl ⟨by rfl, fun w' hw => ?_⟩) ?_
            rotate_left
            · obtain ⟨q1, q2, q3⟩ := hw; go_simp <;> with_reducible rfl
            try simp only [Act.put, List.setIfInBounds_toArray, List.set_cons_zero, List.set_cons_succ]
            refine rgs_t (v := ?_) (some 43) 24 (by kernel_rfl) rfl rfl (by assumption) (.inl ⟨by rfl, fun w' hw => ?_⟩) ?_
            rotate_left
            · obtain ⟨q1, q2, q3⟩ := hw; go_simp <;> with_reducible rfl
            try simp only [Act.put, List.setIfInBounds_toArray, List.set_cons_zero, List.set_cons_succ]
            refine rgs_t (v := ?_) (some 44) 25 (by kernel_rfl) rfl rfl (by assumption) (.inl ⟨by rfl, fun w' hw => ?_⟩) ?_
            rotate_left
            · obtain ⟨q1, q2, q3⟩ := hw; go_simp <;> with_reducible rfl
            try simp only [Act.put, List.setIfInBounds_toArray, List.set_cons_zero, List.set_cons_succ]
            refine rgs_t (v := ?_) (some 45) 26 (by kernel_rfl) rfl rfl (by assumption) (.inl ⟨by rfl, fun w' hw => ?_⟩) ?_
            rotate_left
            · obtain ⟨q1, q2, q3⟩ := hw; go_simp <;> with_reducible rfl
            try simp only [Act.put, List.setIfInBounds_toArray, List.set_cons_zero, List.set_cons_succ]
            refine rgs_t (v := ?_) (some 46) 27 (by kernel_rfl) rfl rfl (by assumption) (.inl ⟨by rfl, fun w' hw => ?_⟩) ?_
            rotate_left
            · obtain ⟨q1, q2, q3⟩ := hw; go_simp <;> with_reducible rfl
            try simp only [Act.put, List.setIfInBounds_toArray, List.set_cons_zero, List.set_cons_succ]
            refine rgs_q (v := ?_) (some 47) 28 (by kernel_rfl) rfl rfl (by assumption) (by rfl) (fun w' hw K hK => ?_) ?_
            rotate_left
            · obtain ⟨q1, q2, q3⟩ := hw
              go_simp
              refine (HF1.out hp _ (by first | rfl | exact (IntWalk.i64_in _ ⟨by omega, by omega⟩).symm) _).mono ?_
              rintro e w1 ⟨rfl, rfl⟩
              exact hK
            try simp only [Act.put, List.setIfInBounds_toArray, List.set_cons_zero, List.set_cons_succ]
            refine rgs_t (v := ?_) (some 48) 29 (by kernel_rfl) rfl rfl (by assumption) (.inl ⟨by rfl, fun w' hw => ?_⟩) ?_
            rotate_left
            · obtain ⟨q1, q2, q3⟩ := hw; go_simp <;> with_reducible rfl
            try simp only [Act.put, List.setIfInBounds_toArray, List.set_cons_zero, List.set_cons_succ]
            refine rgs_t (v := ?_) (some 49) 30 (by kernel_rfl) rfl rfl (by assumption) (.inl ⟨by rfl, fun w' hw => ?_⟩) ?_
            rotate_left
            · obtain ⟨q1, q2, q3⟩ := hw; go_simp <;> with_reducible rfl
            try simp only [Act.put, List.setIfInBounds_toArray, List.set_cons_zero, List.set_cons_succ]
            refine rgs_t (v := ?_) (some 50) 31 (by kernel_rfl) rfl rfl (by assumption) (.inl ⟨by rfl, fun w' hw => ?_⟩) ?_
            rotate_left
            · obtain ⟨q1, q2, q3⟩ := hw; go_simp <;> with_reducible rfl
            try simp only [Act.put, List.setIfInBounds_toArray, List.set_cons_zero, List.set_cons_succ]
            refine rgs_d (by kernel_rfl) ?_
            cases f1
            · have hz := HZ.out
              simp only [Bool.and_false, Bool.false_and, Bool.and_true, Bool.true_and, if_true] at hz
              subst hz
              go_wp2
              go_ret
              exact ⟨rfl, below_drew hbz⟩
            · go_wp2_with fail
              go_roundw
              case rel => first | exact ⟨.inr (.inr (.inl ⟨rfl, (by first | rfl | trivial), (by first | rfl | trivial)⟩)), z + 1, rfl⟩ | ((repeat apply Exists.intro); refine ⟨?_, rfl⟩; exact ⟨.inr (.inr (.inl ⟨rfl, (by first | rfl | trivial), (by first | rfl | trivial)⟩)), z + 1, rfl⟩)
              case measure => simp [intOf]
          · have hn := HN1.out (by omega)
            have hd1 : (w1c == 0) = true := by simp; omega
            have hd2 : decide (0 < w1c) = false := by simpa using hp
            by_cases hf : w1f = 0
            · have hd3 : (w1f != 0) = false := by simp [hf]
              obtain rfl : f1 = true := by rw [← hn]; simp [hf]
              clear hn hf
              go_wp2_with fail
              have hS : (∀ i, (W2.drewN z).drew.cell? ⟨w.heap.size, i, none⟩ = (#[.int .i64 w0f, .int .i64 w0c, .int .i64 w1f, .int .i64 w1c, .int .i64 w2f, .int .i64 w2c, .int .i64 w3f, .int .i64 w3c] : Array Value)[i]?) ∧ True ∧ True := ⟨hq, trivial, trivial⟩
              refine rgs_start (fun w' => (∀ i, w'.cell? ⟨w.heap.size, i, none⟩ = (#[.int .i64 w0f, .int .i64 w0c, .int .i64 w1f, .int .i64 w1c, .int .i64 w2f, .int .i64 w2c, .int .i64 w3f, .int .i64 w3c] : Array Value)[i]?) ∧ True ∧ True) (by kernel_rfl) ?_
              refine rgs_t (v := ?_) (some 19) 0 (by kernel_rfl) rfl rfl (by assumption) (.inl ⟨by rfl, fun w' hw => ?_⟩) ?_
              rotate_left
              · obtain ⟨q1, q2, q3⟩ := hw; go_simp <;> with_reducible rfl
              try simp only [Act.put, List.setIfInBounds_toArray, List.set_cons_zero, List.set_cons_succ]
              refine rgs_t (v := ?_) (some 20) 1 (by kernel_rfl) rfl rfl (by assumption) (.inl ⟨by rfl, fun w' hw => ?_⟩) ?_
              rotate_left
              · obtain ⟨q1, q2, q3⟩ := hw; go_simp <;> with_reducible rfl
              try simp only [Act.put, List.setIfInBounds_toArray, List.set_cons_zero, List.set_cons_succ]
              refine rgs_t (v := ?_) (some 21) 2 (by kernel_rfl) rfl rfl (by assumption) (.inl ⟨by rfl, fun w' hw => ?_⟩) ?_
              rotate_left
              · obtain ⟨q1, q2, q3⟩ := hw; go_simp <;> with_reducible rfl
              try simp only [Act.put, List.setIfInBounds_toArray, List.set_cons_zero, List.set_cons_succ]
              refine rgs_t (v := ?_) (some 22) 3 (by kernel_rfl) rfl rfl (by assumption) (.inl ⟨by rfl, fun w' hw => ?_⟩) ?_
              rotate_left
              · obtain ⟨q1, q2, q3⟩ := hw; go_simp <;> with_reducible rfl
              try simp only [Act.put, List.setIfInBounds_toArray, List.set_cons_zero, List.set_cons_succ]
              refine rgs_t (v := ?_) (some 23) 4 (by kernel_rfl) rfl rfl (by assumption) (.inl ⟨by rfl, fun w' hw => ?_⟩) ?_
              rotate_left
              · obtain ⟨q1, q2, q3⟩ := hw; go_simp <;> with_reducible rfl
              try simp only [Act.put, List.setIfInBounds_toArray, List.set_cons_zero, List.set_cons_succ]
              refine rgs_t (v := ?_) (some 24) 5 (by kernel_rfl) rfl rfl (by assumption) (.inl ⟨by rfl, fun w' hw => ?_⟩) ?_
              rotate_left
              · obtain ⟨q1, q2, q3⟩ := hw; go_simp <;> with_reducible rfl
              try simp only [Act.put, List.setIfInBounds_toArray, List.set_cons_zero, List.set_cons_succ]
              refine rgs_t (v := ?_) (some 25) 6 (by kernel_rfl) rfl rfl (by assumption) (.inl ⟨by rfl, fun w' hw => ?_⟩) ?_
              rotate_left
              · obtain ⟨q1, q2, q3⟩ := hw; go_simp <;> with_reducible rfl
              try simp only [Act.put, List.setIfInBounds_toArray, List.set_cons_zero, List.set_cons_succ]
              refine rgs_t (v := ?_) (some 26) 7 (by kernel_rfl) rfl rfl (by assumption) (.inl ⟨by rfl, fun w' hw => ?_⟩) ?_
              rotate_left
              · obtain ⟨q1, q2, q3⟩ := hw; go_simp <;> with_reducible rfl
              try simp only [Act.put, List.setIfInBounds_toArray, List.set_cons_zero, List.set_cons_succ]
              refine rgs_t (v := ?_) (some 27) 8 (by kernel_rfl) rfl rfl (by assumption) (.inl ⟨by rfl, fun w' hw => ?_⟩) ?_
              rotate_left
              · obtain ⟨q1, q2, q3⟩ := hw; go_simp <;> with_reducible rfl
              try simp only [Act.put, List.setIfInBounds_toArray, List.set_cons_zero, List.set_cons_succ]
              refine rgs_t (v := ?_) (some 28) 9 (by kernel_rfl) rfl rfl (by assumption) (.inl ⟨by rfl, fun w' hw => ?_⟩) ?_
              rotate_left
              · obtain ⟨q1, q2, q3⟩ := hw; go_simp <;> with_reducible rfl
              try simp only [Act.put, List.setIfInBounds_toArray, List.set_cons_zero, List.set_cons_succ]
              refine rgs_t (v := ?_) (some 29) 10 (by kernel_rfl) rfl rfl (by assumption) (.inl ⟨by rfl, fun w' hw => ?_⟩) ?_
              rotate_left
              · obtain ⟨q1, q2, q3⟩ := hw; go_simp <;> with_reducible rfl
              try simp only [Act.put, List.setIfInBounds_toArray, List.set_cons_zero, List.set_cons_succ]
              refine rgs_t (v := ?_) (some 30) 11 (by kernel_rfl) rfl rfl (by assumption) (.inl ⟨by rfl, fun w' hw => ?_⟩) ?_
              rotate_left
              · obtain ⟨q1, q2, q3⟩ := hw; go_simp <;> with_reducible rfl
              try simp only [Act.put, List.setIfInBounds_toArray, List.set_cons_zero, List.set_cons_succ]
              refine rgs_t (v := ?_) (some 31) 12 (by kernel_rfl) rfl rfl (by assumption) (.inl ⟨by rfl, fun w' hw => ?_⟩) ?_
              rotate_left
              · obtain ⟨q1, q2, q3⟩ := hw; go_simp <;> with_reducible rfl
              try simp only [Act.put, List.setIfInBounds_toArray, List.set_cons_zero, List.set_cons_succ]
              refine rgs_t (v := ?_) (some 32) 13 (by kernel_rfl) rfl rfl (by assumption) (.inl ⟨by rfl, fun w' hw => ?_⟩) ?_
              rotate_left
              · obtain ⟨q1, q2, q3⟩ := hw; go_simp <;> with_reducible rfl
              try simp only [Act.put, List.setIfInBounds_toArray, List.set_cons_zero, List.set_cons_succ]
              refine rgs_t (v := ?_) (some 33) 14 (by kernel_rfl) rfl rfl (by assumption) (.inl ⟨by rfl, fun w' hw => ?_⟩) ?_
              rotate_left
              · obtain ⟨q1, q2, q3⟩ := hw; go_simp <;> with_reducible rfl
              try simp only [Act.put, List.setIfInBounds_toArray, List.set_cons_zero, List.set_cons_succ]
              refine rgs_t (v := ?_) (some 34) 15 (by kernel_rfl) rfl rfl (by assumption) (.inl ⟨by rfl, fun w' hw => ?_⟩) ?_
              rotate_left
              · obtain ⟨q1, q2, q3⟩ := hw; go_simp <;> with_reducible rfl
              try simp only [Act.put, List.setIfInBounds_toArray, List.set_cons_zero, List.set_cons_succ]
              refine rgs_t (v := ?_) (some 35) 16 (by kernel_rfl) rfl rfl (by assumption) (.inl ⟨by rfl, fun w' hw => ?_⟩) ?_
              rotate_left
              · obtain ⟨q1, q2, q3⟩ := hw; go_simp <;> with_reducible rfl
              try simp only [Act.put, List.setIfInBounds_toArray, List.set_cons_zero, List.set_cons_succ]
              refine rgs_t (v := ?_) (some 36) 17 (by kernel_rfl) rfl rfl (by assumption) (.inl ⟨by rfl, fun w' hw => ?_⟩) ?_
              rotate_left
              · obtain ⟨q1, q2, q3⟩ := hw; go_simp <;> with_reducible rfl
              try simp only [Act.put, List.setIfInBounds_toArray, List.set_cons_zero, List.set_cons_succ]
              refine rgs_t (v := ?_) (some 37) 18 (by kernel_rfl) rfl rfl (by assumption) (.inl ⟨by rfl, fun w' hw => ?_⟩) ?_
              rotate_left
              · obtain ⟨q1, q2, q3⟩ := hw; go_simp <;> with_reducible rfl
              try simp only [Act.put, List.setIfInBounds_toArray, List.set_cons_zero, List.set_cons_succ]
              refine rgs_t (some 38) 19 (by kernel_rfl) rfl rfl (by assumption) (.inr ⟨by rfl, rfl⟩) ?_
              try simp only [Act.put, List.setIfInBounds_toArray, List.set_cons_zero, List.set_cons_succ]
              refine rgs_t (some 39) 20 (by kernel_rfl) rfl rfl (by assumption) (.inr ⟨by rfl, rfl⟩) ?_
              try simp only [Act.put, List.setIfInBounds_toArray, List.set_cons_zero, List.set_cons_succ]
              refine rgs_t (some 40) 21 (by kernel_rfl) rfl rfl (by assumption) (.inr ⟨by rfl, rfl⟩) ?_
              try simp only [Act.put, List.setIfInBounds_toArray, List.set_cons_zero, List.set_cons_succ]
              refine rgs_t (some 41) 22 (by kernel_rfl) rfl rfl (by assumption) (.inr ⟨by rfl, rfl⟩) ?_
              try simp only [Act.put, List.setIfInBounds_toArray, List.set_cons_zero, List.set_cons_succ]
              refine rgs_t (some 42) 23 (by kernel_rfl) rfl rfl (by assumption) (.inr ⟨by rfl, rfl⟩) ?_
              try simp only [Act.put, List.setIfInBounds_toArray, List.set_cons_zero, List.set_cons_succ]
              refine rgs_t (some 43) 24 (by kernel_rfl) rfl rfl (by assumption) (.inr ⟨by rfl, rfl⟩) ?_
              try simp only [Act.put, List.setIfInBounds_toArray, List.set_cons_zero, List.set_cons_succ]
              refine rgs_t (some 44) 25 (by kernel_rfl) rfl rfl (by assumption) (.inr ⟨by rfl, rfl⟩) ?_
              try simp only [Act.put, List.setIfInBounds_toArray, List.set_cons_zero, List.set_cons_succ]
              refine rgs_t (some 45) 26 (by kernel_rfl) rfl rfl (by assumption) (.inr ⟨by rfl, rfl⟩) ?_
              try simp only [Act.put, List.setIfInBounds_toArray, List.set_cons_zero, List.set_cons_succ]
              refine rgs_t (some 46) 27 (by kernel_rfl) rfl rfl (by assumption) (.inr ⟨by rfl, rfl⟩) ?_
              try simp only [Act.put, List.setIfInBounds_toArray, List.set_cons_zero, List.set_cons_succ]
              refine rgs_t (some 47) 28 (by kernel_rfl) rfl rfl (by assumption) (.inr ⟨by rfl, rfl⟩) ?_
              try simp only [Act.put, List.setIfInBounds_toArray, List.set_cons_zero, List.set_cons_succ]
              refine rgs_t (some 48) 29 (by kernel_rfl) rfl rfl (by assumption) (.inr ⟨by rfl, rfl⟩) ?_
              try simp only [Act.put, List.setIfInBounds_toArray, List.set_cons_zero, List.set_cons_succ]
              refine rgs_t (v := ?_) (some 49) 30 (by kernel_rfl) rfl rfl (by assumption) (.inl ⟨by rfl, fun w' hw => ?_⟩) ?_
              rotate_left
              · obtain ⟨q1, q2, q3⟩ := hw; go_simp <;> with_reducible rfl
              try simp only [Act.put, List.setIfInBounds_toArray, List.set_cons_zero, List.set_cons_succ]
              refine rgs_t (v := ?_) (some 50) 31 (by kernel_rfl) rfl rfl (by assumption) (.inl ⟨by rfl, fun w' hw => ?_⟩) ?_
              rotate_left
              · obtain ⟨q1, q2, q3⟩ := hw; go_simp <;> with_reducible rfl
              try simp only [Act.put, List.setIfInBounds_toArray, List.set_cons_zero, List.set_cons_succ]
              refine rgs_d (by kernel_rfl) ?_
              go_wp2_with fail
              go_roundw
              case rel => first | exact ⟨.inr (.inr (.inl ⟨rfl, (by first | rfl | trivial), (by first | rfl | trivial)⟩)), z + 1, rfl⟩ | ((repeat apply Exists.intro); refine ⟨?_, rfl⟩; exact ⟨.inr (.inr (.inl ⟨rfl, (by first | rfl | trivial), (by first | rfl | trivial)⟩)), z + 1, rfl⟩)
              case measure => simp [intOf]
            · have hd3 : (w1f != 0) = true := by simp [hf]
              obtain rfl : f1 = false := by rw [← hn]; simp [hf]
              clear hn hf
              go_wp2_with fail
              have hS : (∀ i, (W2.drewN z).drew.cell? ⟨w.heap.size, i, none⟩ = (#[.int .i64 w0f, .int .i64 w0c, .int .i64 w1f, .int .i64 w1c, .int .i64 w2f, .int .i64 w2c, .int .i64 w3f, .int .i64 w3c] : Array Value)[i]?) ∧ True ∧ True := ⟨hq, trivial, trivial⟩
              refine rgs_start (fun w' => (∀ i, w'.cell? ⟨w.heap.size, i, none⟩ = (#[.int .i64 w0f, .int .i64 w0c, .int .i64 w1f, .int .i64 w1c, .int .i64 w2f, .int .i64 w2c, .int .i64 w3f, .int .i64 w3c] : Array Value)[i]?) ∧ True ∧ True) (by kernel_rfl) ?_
              refine rgs_t (v := ?_) (some 19) 0 (by kernel_rfl) rfl rfl (by assumption) (.inl ⟨by rfl, fun w' hw => ?_⟩) ?_
              rotate_left
              · obtain ⟨q1, q2, q3⟩ := hw; go_simp <;> with_reducible rfl
              try simp only [Act.put, List.setIfInBounds_toArray, List.set_cons_zero, List.set_cons_succ]
              refine rgs_t (v := ?_) (some 20) 1 (by kernel_rfl) rfl rfl (by assumption) (.inl ⟨by rfl, fun w' hw => ?_⟩) ?_
              rotate_left
              · obtain ⟨q1, q2, q3⟩ := hw; go_simp <;> with_reducible rfl
              try simp only [Act.put, List.setIfInBounds_toArray, List.set_cons_zero, List.set_cons_succ]
              refine rgs_t (v := ?_) (some 21) 2 (by kernel_rfl) rfl rfl (by assumption) (.inl ⟨by rfl, fun w' hw => ?_⟩) ?_
              rotate_left
              · obtain ⟨q1, q2, q3⟩ := hw; go_simp <;> with_reducible rfl
              try simp only [Act.put, List.setIfInBounds_toArray, List.set_cons_zero, List.set_cons_succ]
              refine rgs_t (v := ?_) (some 22) 3 (by kernel_rfl) rfl rfl (by assumption) (.inl ⟨by rfl, fun w' hw => ?_⟩) ?_
              rotate_left
              · obtain ⟨q1, q2, q3⟩ := hw; go_simp <;> with_reducible rfl
              try simp only [Act.put, List.setIfInBounds_toArray, List.set_cons_zero, List.set_cons_succ]
              refine rgs_t (v := ?_) (some 23) 4 (by kernel_rfl) rfl rfl (by assumption) (.inl ⟨by rfl, fun w' hw => ?_⟩) ?_
              rotate_left
              · obtain ⟨q1, q2, q3⟩ := hw; go_simp <;> with_reducible rfl
              try simp only [Act.put, List.setIfInBounds_toArray, List.set_cons_zero, List.set_cons_succ]
              refine rgs_t (v := ?_) (some 24) 5 (by kernel_rfl) rfl rfl (by assumption) (.inl ⟨by rfl, fun w' hw => ?_⟩) ?_
              rotate_left
              · obtain ⟨q1, q2, q3⟩ := hw; go_simp <;> with_reducible rfl
              try simp only [Act.put, List.setIfInBounds_toArray, List.set_cons_zero, List.set_cons_succ]
              refine rgs_t (v := ?_) (some 25) 6 (by kernel_rfl) rfl rfl (by assumption) (.inl ⟨by rfl, fun w' hw => ?_⟩) ?_
              rotate_left
              · obtain ⟨q1, q2, q3⟩ := hw; go_simp <;> with_reducible rfl
              try simp only [Act.put, List.setIfInBounds_toArray, List.set_cons_zero, List.set_cons_succ]
              refine rgs_t (v := ?_) (some 26) 7 (by kernel_rfl) rfl rfl (by assumption) (.inl ⟨by rfl, fun w' hw => ?_⟩) ?_
              rotate_left
              · obtain ⟨q1, q2, q3⟩ := hw; go_simp <;> with_reducible rfl
              try simp only [Act.put, List.setIfInBounds_toArray, List.set_cons_zero, List.set_cons_succ]
              refine rgs_t (v := ?_) (some 27) 8 (by kernel_rfl) rfl rfl (by assumption) (.inl ⟨by rfl, fun w' hw => ?_⟩) ?_
              rotate_left
              · obtain ⟨q1, q2, q3⟩ := hw; go_simp <;> with_reducible rfl
              try simp only [Act.put, List.setIfInBounds_toArray, List.set_cons_zero, List.set_cons_succ]
              refine rgs_t (v := ?_) (some 28) 9 (by kernel_rfl) rfl rfl (by assumption) (.inl ⟨by rfl, fun w' hw => ?_⟩) ?_
              rotate_left
              · obtain ⟨q1, q2, q3⟩ := hw; go_simp <;> with_reducible rfl
              try simp only [Act.put, List.setIfInBounds_toArray, List.set_cons_zero, List.set_cons_succ]
              refine rgs_t (v := ?_) (some 29) 10 (by kernel_rfl) rfl rfl (by assumption) (.inl ⟨by rfl, fun w' hw => ?_⟩) ?_
              rotate_left
              · obtain ⟨q1, q2, q3⟩ := hw; go_simp <;> with_reducible rfl
              try simp only [Act.put, List.setIfInBounds_toArray, List.set_cons_zero, List.set_cons_succ]
              refine rgs_t (v := ?_) (some 30) 11 (by kernel_rfl) rfl rfl (by assumption) (.inl ⟨by rfl, fun w' hw => ?_⟩) ?_
              rotate_left
              · obtain ⟨q1, q2, q3⟩ := hw; go_simp <;> with_reducible rfl
              try simp only [Act.put, List.setIfInBounds_toArray, List.set_cons_zero, List.set_cons_succ]
              refine rgs_t (v := ?_) (some 31) 12 (by kernel_rfl) rfl rfl (by assumption) (.inl ⟨by rfl, fun w' hw => ?_⟩) ?_
              rotate_left
              · obtain ⟨q1, q2, q3⟩ := hw; go_simp <;> with_reducible rfl
              try simp only [Act.put, List.setIfInBounds_toArray, List.set_cons_zero, List.set_cons_succ]
              refine rgs_t (some 32) 13 (by kernel_rfl) rfl rfl (by assumption) (.inr ⟨by rfl, rfl⟩) ?_
              try simp only [Act.put, List.setIfInBounds_toArray, List.set_cons_zero, List.set_cons_succ]
              refine rgs_t (some 33) 14 (by kernel_rfl) rfl rfl (by assumption) (.inr ⟨by rfl, rfl⟩) ?_
              try simp only [Act.put, List.setIfInBounds_toArray, List.set_cons_zero, List.set_cons_succ]
              refine rgs_t (some 34) 15 (by kernel_rfl) rfl rfl (by assumption) (.inr ⟨by rfl, rfl⟩) ?_
              try simp only [Act.put, List.setIfInBounds_toArray, List.set_cons_zero, List.set_cons_succ]
              refine rgs_t (some 35) 16 (by kernel_rfl) rfl rfl (by assumption) (.inr ⟨by rfl, rfl⟩) ?_
              try simp only [Act.put, List.setIfInBounds_toArray, List.set_cons_zero, List.set_cons_succ]
              refine rgs_t (some 36) 17 (by kernel_rfl) rfl rfl (by assumption) (.inr ⟨by rfl, rfl⟩) ?_
              try simp only [Act.put, List.setIfInBounds_toArray, List.set_cons_zero, List.set_cons_succ]
              refine rgs_t (some 37) 18 (by kernel_rfl) rfl rfl (by assumption) (.inr ⟨by rfl, rfl⟩) ?_
              try simp only [Act.put, List.setIfInBounds_toArray, List.set_cons_zero, List.set_cons_succ]
              refine rgs_t (some 38) 19 (by kernel_rfl) rfl rfl (by assumption) (.inr ⟨by rfl, rfl⟩) ?_
              try simp only [Act.put, List.setIfInBounds_toArray, List.set_cons_zero, List.set_cons_succ]
              refine rgs_t (some 39) 20 (by kernel_rfl) rfl rfl (by assumption) (.inr ⟨by rfl, rfl⟩) ?_
              try simp only [Act.put, List.setIfInBounds_toArray, List.set_cons_zero, List.set_cons_succ]
              refine rgs_t (some 40) 21 (by kernel_rfl) rfl rfl (by assumption) (.inr ⟨by rfl, rfl⟩) ?_
              try simp only [Act.put, List.setIfInBounds_toArray, List.set_cons_zero, List.set_cons_succ]
              refine rgs_t (some 41) 22 (by kernel_rfl) rfl rfl (by assumption) (.inr ⟨by rfl, rfl⟩) ?_
              try simp only [Act.put, List.setIfInBounds_toArray, List.set_cons_zero, List.set_cons_succ]
              refine rgs_t (some 42) 23 (by kernel_rfl) rfl rfl (by assumption) (.inr ⟨by rfl, rfl⟩) ?_
              try simp only [Act.put, List.setIfInBounds_toArray, List.set_cons_zero, List.set_cons_succ]
              refine rgs_t (some 43) 24 (by kernel_rfl) rfl rfl (by assumption) (.inr ⟨by rfl, rfl⟩) ?_
              try simp only [Act.put, List.setIfInBounds_toArray, List.set_cons_zero, List.set_cons_succ]
              refine rgs_t (some 44) 25 (by kernel_rfl) rfl rfl (by assumption) (.inr ⟨by rfl, rfl⟩) ?_
              try simp only [Act.put, List.setIfInBounds_toArray, List.set_cons_zero, List.set_cons_succ]
              refine rgs_t (some 45) 26 (by kernel_rfl) rfl rfl (by assumption) (.inr ⟨by rfl, rfl⟩) ?_
              try simp only [Act.put, List.setIfInBounds_toArray, List.set_cons_zero, List.set_cons_succ]
              refine rgs_t (some 46) 27 (by kernel_rfl) rfl rfl (by assumption) (.inr ⟨by rfl, rfl⟩) ?_
              try simp only [Act.put, List.setIfInBounds_toArray, List.set_cons_zero, List.set_cons_succ]
              refine rgs_t (some 47) 28 (by kernel_rfl) rfl rfl (by assumption) (.inr ⟨by rfl, rfl⟩) ?_
              try simp only [Act.put, List.setIfInBounds_toArray, List.set_cons_zero, List.set_cons_succ]
              refine rgs_t (some 48) 29 (by kernel_rfl) rfl rfl (by assumption) (.inr ⟨by rfl, rfl⟩) ?_
              try simp only [Act.put, List.setIfInBounds_toArray, List.set_cons_zero, List.set_cons_succ]
              refine rgs_t (some 49) 30 (by kernel_rfl) rfl rfl (by assumption) (.inr ⟨by rfl, rfl⟩) ?_
              try simp only [Act.put, List.setIfInBounds_toArray, List.set_cons_zero, List.set_cons_succ]
              refine rgs_t (v := ?_) (some 50) 31 (by kernel_rfl) rfl rfl (by assumption) (.inl ⟨by rfl, fun w' hw => ?_⟩) ?_
              rotate_left
              · obtain ⟨q1, q2, q3⟩ := hw; go_simp <;> with_reducible rfl
              try simp only [Act.put, List.setIfInBounds_toArray, List.set_cons_zero, List.set_cons_succ]
              refine rgs_d (by kernel_rfl) ?_
              have hz := HZ.out
              simp only [Bool.and_false, Bool.false_and, Bool.and_true, Bool.true_and, if_true] at hz
              subst hz
              go_wp2
              go_ret
              exact ⟨rfl, below_drew hbz⟩
        · by_cases hp : 0 < w2c
          · have hd1 : (w2c == 0) = false := by simp; omega
            have hd2 : decide (0 < w2c) = true := by simpa using hp
            go_wp2_with fail
            have hS : (∀ i, (W2.drewN z).drew.cell? ⟨w.heap.size, i, none⟩ = (#[.int .i64 w0f, .int .i64 w0c, .int .i64 w1f, .int .i64 w1c, .int .i64 w2f, .int .i64 w2c, .int .i64 w3f, .int .i64 w3c] : Array Value)[i]?) ∧ True ∧ True := ⟨hq, trivial, trivial⟩
            refine rgs_start (fun w' => (∀ i, w'.cell? ⟨w.heap.size, i, none⟩ = (#[.int .i64 w0f, .int .i64 w0c, .int .i64 w1f, .int .i64 w1c, .int .i64 w2f, .int .i64 w2c, .int .i64 w3f, .int .i64 w3c] : Array Value)[i]?) ∧ True ∧ True) (by kernel_rfl) ?_
            refine rgs_t (v := ?_) (some 19) 0 (by kernel_rfl) rfl rfl (by assumption) (.inl ⟨by rfl, fun w' hw => ?_⟩) ?_
            rotate_left
            · obtain ⟨q1, q2, q3⟩ := hw; go_simp <;> with_reducible rfl
            try simp only [Act.put, List.setIfInBounds_toArray, List.set_cons_zero, List.set_cons_succ]
            refine rgs_t (v := ?_) (some 20) 1 (by kernel_rfl) rfl rfl (by assumption) (.inl ⟨by rfl, fun w' hw => ?_⟩) ?_
            rotate_left
            · obtain ⟨q1, q2, q3⟩ := hw; go_simp <;> with_reducible rfl
            try simp only [Act.put, List.setIfInBounds_toArray, List.set_cons_zero, List.set_cons_succ]
            refine rgs_t (v := ?_) (some 21) 2 (by kernel_rfl) rfl rfl (by assumption) (.inl ⟨by rfl, fun w' hw => ?_⟩) ?_
            rotate_left
            · obtain ⟨q1, q2, q3⟩ := hw; go_simp <;> with_reducible rfl
            try simp only [Act.put, List.setIfInBounds_toArray, List.set_cons_zero, List.set_cons_succ]
            refine rgs_t (v := ?_) (some 22) 3 (by kernel_rfl) rfl rfl (by assumption) (.inl ⟨by rfl, fun w' hw => ?_⟩) ?_
            rotate_left
            · obtain ⟨q1, q2, q3⟩ := hw; go_simp <;> with_reducible rfl
            try simp only [Act.put, List.setIfInBounds_toArray, List.set_cons_zero, List.set_cons_succ]
            refine rgs_t (v := ?_) (some 23) 4 (by kernel_rfl) rfl rfl (by assumption) (.inl ⟨by rfl, fun w' hw => ?_⟩) ?_
            rotate_left
            · obtain ⟨q1, q2, q3⟩ := hw; go_simp <;> with_reducible rfl
            try simp only [Act.put, List.setIfInBounds_toArray, List.set_cons_zero, List.set_cons_succ]
            refine rgs_t (v := ?_) (some 24) 5 (by kernel_rfl) rfl rfl (by assumption) (.inl ⟨by rfl, fun w' hw => ?_⟩) ?_
            rotate_left
            · obtain ⟨q1, q2, q3⟩ := hw; go_simp <;> with_reducible rfl
            try simp only [Act.put, List.setIfInBounds_toArray, List.set_cons_zero, List.set_cons_succ]
            refine rgs_t (some 25) 6 (by kernel_rfl) rfl rfl (by assumption) (.inr ⟨by rfl, rfl⟩) ?_
            try simp only [Act.put, List.setIfInBounds_toArray, List.set_cons_zero, List.set_cons_succ]
            refine rgs_t (some 26) 7 (by kernel_rfl) rfl rfl (by assumption) (.inr ⟨by rfl, rfl⟩) ?_
            try simp only [Act.put, List.setIfInBounds_toArray, List.set_cons_zero, List.set_cons_succ]
            refine rgs_t (some 27) 8 (by kernel_rfl) rfl rfl (by assumption) (.inr ⟨by rfl, rfl⟩) ?_
            try simp only [Act.put, List.setIfInBounds_toArray, List.set_cons_zero, List.set_cons_succ]
            refine rgs_t (some 28) 9 (by kernel_rfl) rfl rfl (by assumption) (.inr ⟨by rfl, rfl⟩) ?_
            try simp only [Act.put, List.setIfInBounds_toArray, List.set_cons_zero, List.set_cons_succ]
            refine rgs_t (some 29) 10 (by kernel_rfl) rfl rfl (by assumption) (.inr ⟨by rfl, rfl⟩) ?_
            try simp only [Act.put, List.setIfInBounds_toArray, List.set_cons_zero, List.set_cons_succ]
            refine rgs_t (v := ?_) (some 30) 11 (by kernel_rfl) rfl rfl (by assumption) (.inl ⟨by rfl, fun w' hw => ?_⟩) ?_
            rotate_left
            · obtain ⟨q1, q2, q3⟩ := hw; go_simp <;> with_reducible rfl
            try simp only [Act.put, List.setIfInBounds_toArray, List.set_cons_zero, List.set_cons_succ]
            refine rgs_t (v := ?_) (some 31) 12 (by kernel_rfl) rfl rfl (by assumption) (.inl ⟨by rfl, fun w' hw => ?_⟩) ?_
            rotate_left
            · obtain ⟨q1, q2, q3⟩ := hw; go_simp <;> with_reducible rfl
            try simp only [Act.put, List.setIfInBounds_toArray, List.set_cons_zero, List.set_cons_succ]
            refine rgs_t (v := ?_) (some 32) 13 (by kernel_rfl) rfl rfl (by assumption) (.inl ⟨by rfl, fun w' hw => ?_⟩) ?_
            rotate_left
            · obtain ⟨q1, q2, q3⟩ := hw; go_simp <;> with_reducible rfl
            try simp only [Act.put, List.setIfInBounds_toArray, List.set_cons_zero, List.set_cons_succ]
            refine rgs_t (v := ?_) (some 33) 14 (by kernel_rfl) rfl rfl (by assumption) (.inl ⟨by rfl, fun w' hw => ?_⟩) ?_
            rotate_left
            · obtain ⟨q1, q2, q3⟩ := hw; go_simp <;> with_reducible rfl
            try simp only [Act.put, List.setIfInBounds_toArray, List.set_cons_zero, List.set_cons_succ]
            refine rgs_t (v := ?_) (some 34) 15 (by kernel_rfl) rfl rfl (by assumption) (.inl ⟨by rfl, fun w' hw => ?_⟩) ?_
            rotate_left
            · obtain ⟨q1, q2, q3⟩ := hw; go_simp <;> with_reducible rfl
            try simp only [Act.put, List.setIfInBounds_toArray, List.set_cons_zero, List.set_cons_succ]
            refine rgs_t (v := ?_) (some 35) 16 (by kernel_rfl) rfl rfl (by assumption) (.inl ⟨by rfl, fun w' hw => ?_⟩) ?_
            rotate_left
            · obtain ⟨q1, q2, q3⟩ := hw; go_simp <;> with_reducible rfl
            try simp only [Act.put, List.setIfInBounds_toArray, List.set_cons_zero, List.set_cons_succ]
            refine rgs_t (v := ?_) (some 36) 17 (by kernel_rfl) rfl rfl (by assumption) (.inl ⟨by rfl, fun w' hw => ?_⟩) ?_
            rotate_left
            · obtain ⟨q1, q2, q3⟩ := hw; go_simp <;> with_reducible rfl
            try simp only [Act.put, List.setIfInBounds_toArray, List.set_cons_zero, List.set_cons_succ]
            refine rgs_t (v := ?_) (some 37) 18 (by kernel_rfl) rfl rfl (by assumption) (.inl ⟨by rfl, fun w' hw => ?_⟩) ?_
            rotate_left
            · obtain ⟨q1, q2, q3⟩ := hw; go_simp <;> with_reducible rfl
            try simp only [Act.put, List.setIfInBounds_toArray, List.set_cons_zero, List.set_cons_succ]
            refine rgs_t (v := ?_) (some 38) 19 (by kernel_rfl) rfl rfl (by assumption) (.inl ⟨by rfl, fun w' hw => ?_⟩) ?_
            rotate_left
            · obtain ⟨q1, q2, q3⟩ := hw; go_simp <;> with_reducible rfl
            try simp only [Act.put, List.setIfInBounds_toArray, List.set_cons_zero, List.set_cons_succ]
            refine rgs_t (v := ?_) (some 39) 20 (by kernel_rfl) rfl rfl (by assumption) (.inl ⟨by rfl, fun w' hw => ?_⟩) ?_
            rotate_left
            · obtain ⟨q1, q2, q3⟩ := hw; go_simp <;> with_reducible rfl
            try simp only [Act.put, List.setIfInBounds_toArray, List.set_cons_zero, List.set_cons_succ]
            refine rgs_t (v := ?_) (some 40) 21 (by kernel_rfl) rfl rfl (by assumption) (.inl ⟨by rfl, fun w' hw => ?_⟩) ?_
            rotate_left
            · obtain ⟨q1, q2, q3⟩ := hw; go_simp <;> with_reducible rfl
            try simp only [Act.put, List.setIfInBounds_toArray, List.set_cons_zero, List.set_cons_succ]
            refine rgs_t (v := ?_) (some 41) 22 (by kernel_rfl) rfl rfl (by assumption) (.inl ⟨by rfl, fun w' hw => ?_⟩) ?_
            rotate_left
            · obtain ⟨q1, q2, q3⟩ := hw; go_simp <;> with_reducible rfl
            try simp only [Act.put, List.setIfInBounds_toArray, List.set_cons_zero, List.set_cons_succ]
            refine rgs_t (v := ?_) (some 42) 23 (by kernel_rfl) rfl rfl (by assumption) (.inl ⟨by rfl, fun w' hw => ?_⟩) ?_
            rotate_left
            · obtain ⟨q1, q2, q3⟩ := hw; go_simp <;> with_reducible rfl
            try simp only [Act.put, List.setIfInBounds_toArray, List.set_cons_zero, List.set_cons_succ]
            refine rgs_t (v := ?_) (some 43) 24 (by kernel_rfl) rfl rfl (by assumption) (.inl ⟨by rfl, fun w' hw => ?_⟩) ?_
            rotate_left
            · obtain ⟨q1, q2, q3⟩ := hw; go_simp <;> with_reducible rfl
            try simp only [Act.put, List.setIfInBounds_toArray, List.set_cons_zero, List.set_cons_succ]
            refine rgs_t (v := ?_) (some 44) 25 (by kernel_rfl) rfl rfl (by assumption) (.inl ⟨by rfl, fun w' hw => ?_⟩) ?_
            rotate_left
            · obtain ⟨q1, q2, q3⟩ := hw; go_simp <;> with_reducible rfl
            try simp only [Act.put, List.setIfInBounds_toArray, List.set_cons_zero, List.set_cons_succ]
            refine rgs_t (v := ?_) (some 45) 26 (by kernel_rfl) rfl rfl (by assumption) (.inl ⟨by rfl, fun w' hw => ?_⟩) ?_
            rotate_left
            · obtain ⟨q1, q2, q3⟩ := hw; go_simp <;> with_reducible rfl
            try simp only [Act.put, List.setIfInBounds_toArray, List.set_cons_zero, List.set_cons_succ]
            refine rgs_t (v := ?_) (some 46) 27 (by kernel_rfl) rfl rfl (by assumption) (.inl ⟨by rfl, fun w' hw => ?_⟩) ?_
            rotate_left
            · obtain ⟨q1, q2, q3⟩ := hw; go_simp <;> with_reducible rfl
            try simp only [Act.put, List.setIfInBounds_toArray, List.set_cons_zero, List.set_cons_succ]
            refine rgs_q (v := ?_) (some 47) 28 (by kernel_rfl) rfl rfl (by assumption) (by rfl) (fun w' hw K hK => ?_) ?_
            rotate_left
            · obtain ⟨q1, q2, q3⟩ := hw
              go_simp
              refine (HF2.out hp _ (by first | rfl | exact (IntWalk.i64_in _ ⟨by omega, by omega⟩).symm) _).mono ?_
              rintro e w1 ⟨rfl, rfl⟩
              exact hK
            try simp only [Act.put, List.setIfInBounds_toArray, List.set_cons_zero, List.set_cons_succ]
            refine rgs_t (v := ?_) (some 48) 29 (by kernel_rfl) rfl rfl (by assumption) (.inl ⟨by rfl, fun w' hw => ?_⟩) ?_
            rotate_left
            · obtain ⟨q1, q2, q3⟩ := hw; go_simp <;> with_reducible rfl
            try simp only [Act.put, List.setIfInBounds_toArray, List.set_cons_zero, List.set_cons_succ]
            refine rgs_t (v := ?_) (some 49) 30 (by kernel_rfl) rfl rfl (by assumption) (.inl ⟨by rfl, fun w' hw => ?_⟩) ?_
            rotate_left
            · obtain ⟨q1, q2, q3⟩ := hw; go_simp <;> with_reducible rfl
            try simp only [Act.put, List.setIfInBounds_toArray, List.set_cons_zero, List.set_cons_succ]
            refine rgs_t (v := ?_) (some 50) 31 (by kernel_rfl) rfl rfl (by assumption) (.inl ⟨by rfl, fun w' hw => ?_⟩) ?_
            rotate_left
            · obtain ⟨q1, q2, q3⟩ := hw; go_simp <;> with_reducible rfl
            try simp only [Act.put, List.setIfInBounds_toArray, List.set_cons_zero, List.set_cons_succ]
            refine rgs_d (by kernel_rfl) ?_
            cases f2
            · have hz := HZ.out
              simp only [Bool.and_false, Bool.false_and, Bool.and_true, Bool.true_and, if_true] at hz
              subst hz
              go_wp2
              go_ret
              exact ⟨rfl, below_drew hbz⟩
            · go_wp2_with fail
              go_roundw
              case rel => first | exact ⟨.inr (.inr (.inr (.inl ⟨rfl, (by first | rfl | trivial), (by first | rfl | trivial), (by first | rfl | trivial)⟩))), z + 1, rfl⟩ | ((repeat apply Exists.intro); refine ⟨?_, rfl⟩; exact ⟨.inr (.inr (.inr (.inl ⟨rfl, (by first | rfl | trivial), (by first | rfl | trivial), (by first | rfl | trivial)⟩))), z + 1, rfl⟩)
              case measure => simp [intOf]
          · have hn := HN2.out (by omega)
            have hd1 : (w2c == 0) = true := by simp; omega
            have hd2 : decide (0 < w2c) = false := by simpa using hp
            by_cases hf : w2f = 0
            · have hd3 : (w2f != 0) = false := by simp [hf]
              obtain rfl : f2 = true := by rw [← hn]; simp [hf]
              clear hn hf
              go_wp2_with fail
              have hS : (∀ i, (W2.drewN z).drew.cell? ⟨w.heap.size, i, none⟩ = (#[.int .i64 w0f, .int .i64 w0c, .int .i64 w1f, .int .i64 w1c, .int .i64 w2f, .int .i64 w2c, .int .i64 w3f, .int .i64 w3c] : Array Value)[i]?) ∧ True ∧ True := ⟨hq, trivial, trivial⟩
              refine rgs_start (fun w' => (∀ i, w'.cell? ⟨w.heap.size, i, none⟩ = (#[.int .i64 w0f, .int .i64 w0c, .int .i64 w1f, .int .i64 w1c, .int .i64 w2f, .int .i64 w2c, .int .i64 w3f, .int .i64 w3c] : Array Value)[i]?) ∧ True ∧ True) (by kernel_rfl) ?_
              refine rgs_t (v := ?_) (some 19) 0 (by kernel_rfl) rfl rfl (by assumption) (.inl ⟨by rfl, fun w' hw => ?_⟩) ?_
              rotate_left
              · obtain ⟨q1, q2, q3⟩ := hw; go_simp <;> with_reducible rfl
              try simp only [Act.put, List.setIfInBounds_toArray, List.set_cons_zero, List.set_cons_succ]
              refine rgs_t (v := ?_) (some 20) 1 (by kernel_rfl) rfl rfl (by assumption) (.inl ⟨by rfl, fun w' hw => ?_⟩) ?_
              rotate_left
              · obtain ⟨q1, q2, q3⟩ := hw; go_simp <;> with_reducible rfl
              try simp only [Act.put, List.setIfInBounds_toArray, List.set_cons_zero, List.set_cons_succ]
              refine rgs_t (v := ?_) (some 21) 2 (by kernel_rfl) rfl rfl (by assumption) (.inl ⟨by rfl, fun w' hw => ?_⟩) ?_
              rotate_left
              · obtain ⟨q1, q2, q3⟩ := hw; go_simp <;> with_reducible rfl
              try simp only [Act.put, List.setIfInBounds_toArray, List.set_cons_zero, List.set_cons_succ]
              refine rgs_t (v := ?_) (some 22) 3 (by kernel_rfl) rfl rfl (by assumption) (.inl ⟨by rfl, fun w' hw => ?_⟩) ?_
              rotate_left
              · obtain ⟨q1, q2, q3⟩ := hw; go_simp <;> with_reducible rfl
              try simp only [Act.put, List.setIfInBounds_toArray, List.set_cons_zero, List.set_cons_succ]
              refine rgs_t (v := ?_) (some 23) 4 (by kernel_rfl) rfl rfl (by assumption) (.inl ⟨by rfl, fun w' hw => ?_⟩) ?_
              rotate_left
              · obtain ⟨q1, q2, q3⟩ := hw; go_simp <;> with_reducible rfl
              try simp only [Act.put, List.setIfInBounds_toArray, List.set_cons_zero, List.set_cons_succ]
              refine rgs_t (v := ?_) (some 24) 5 (by kernel_rfl) rfl rfl (by assumption) (.inl ⟨by rfl, fun w' hw => ?_⟩) ?_
              rotate_left
              · obtain ⟨q1, q2, q3⟩ := hw; go_simp <;> with_reducible rfl
              try simp only [Act.put, List.setIfInBounds_toArray, List.set_cons_zero, List.set_cons_succ]
              refine rgs_t (v := ?_) (some 25) 6 (by kernel_rfl) rfl rfl (by assumption) (.inl ⟨by rfl, fun w' hw => ?_⟩) ?_
              rotate_left
              · obtain ⟨q1, q2, q3⟩ := hw; go_simp <;> with_reducible rfl
              try simp only [Act.put, List.setIfInBounds_toArray, List.set_cons_zero, List.set_cons_succ]
              refine rgs_t (v := ?_) (some 26) 7 (by kernel_rfl) rfl rfl (by assumption) (.inl ⟨by rfl, fun w' hw => ?_⟩) ?_
              rotate_left
              · obtain ⟨q1, q2, q3⟩ := hw; go_simp <;> with_reducible rfl
              try simp only [Act.put, List.setIfInBounds_toArray, List.set_cons_zero, List.set_cons_succ]
              refine rgs_t (v := ?_) (some 27) 8 (by kernel_rfl) rfl rfl (by assumption) (.inl ⟨by rfl, fun w' hw => ?_⟩) ?_
              rotate_left
              · obtain ⟨q1, q2, q3⟩ := hw; go_simp <;> with_reducible rfl
              try simp only [Act.put, List.setIfInBounds_toArray, List.set_cons_zero, List.set_cons_succ]
              refine rgs_t (v := ?_) (some 28) 9 (by kernel_rfl) rfl rfl (by assumption) (.inl ⟨by rfl, fun w' hw => ?_⟩) ?_
              rotate_left
              · obtain ⟨q1, q2, q3⟩ := hw; go_simp <;> with_reducible rfl
              try simp only [Act.put, List.setIfInBounds_toArray, List.set_cons_zero, List.set_cons_succ]
              refine rgs_t (v := ?_) (some 29) 10 (by kernel_rfl) rfl rfl (by assumption) (.inl ⟨by rfl, fun w' hw => ?_⟩) ?_
              rotate_left
              · obtain ⟨q1, q2, q3⟩ := hw; go_simp <;> with_reducible rfl
              try simp only [Act.put, List.setIfInBounds_toArray, List.set_cons_zero, List.set_cons_succ]
              refine rgs_t (v := ?_) (some 30) 11 (by kernel_rfl) rfl rfl (by assumption) (.inl ⟨by rfl, fun w' hw => ?_⟩) ?_
              rotate_left
              · obtain ⟨q1, q2, q3⟩ := hw; go_simp <;> with_reducible rfl
              try simp only [Act.put, List.setIfInBounds_toArray, List.set_cons_zero, List.set_cons_succ]
              refine rgs_t (v := ?_) (some 31) 12 (by kernel_rfl) rfl rfl (by assumption) (.inl ⟨by rfl, fun w' hw => ?_⟩) ?_
              rotate_left
              · obtain ⟨q1, q2, q3⟩ := hw; go_simp <;> with_reducible rfl
              try simp only [Act.put, List.setIfInBounds_toArray, List.set_cons_zero, List.set_cons_succ]
              refine rgs_t (v := ?_) (some 32) 13 (by kernel_rfl) rfl rfl (by assumption) (.inl ⟨by rfl, fun w' hw => ?_⟩) ?_
              rotate_left
              · obtain ⟨q1, q2, q3⟩ := hw; go_simp <;> with_reducible rfl
              try simp only [Act.put, List.setIfInBounds_toArray, List.set_cons_zero, List.set_cons_succ]
              refine rgs_t (v := ?_) (some 33) 14 (by kernel_rfl) rfl rfl (by assumption) (.inl ⟨by rfl, fun w' hw => ?_⟩) ?_
              rotate_left
              · obtain ⟨q1, q2, q3⟩ := hw; go_simp <;> with_reducible rfl
              try simp only [Act.put, List.setIfInBounds_toArray, List.set_cons_zero, List.set_cons_succ]
              refine rgs_t (v := ?_) (some 34) 15 (by kernel_rfl) rfl rfl (by assumption) (.inl ⟨by rfl, fun w' hw => ?_⟩) ?_
              rotate_left
              · obtain ⟨q1, q2, q3⟩ := hw; go_simp <;> with_reducible rfl
              try simp only [Act.put, List.setIfInBounds_toArray, List.set_cons_zero, List.set_cons_succ]
              refine rgs_t (v := ?_) (some 35) 16 (by kernel_rfl) rfl rfl (by assumption) (.inl ⟨by rfl, fun w' hw => ?_⟩) ?_
              rotate_left
              · obtain ⟨q1, q2, q3⟩ := hw; go_simp <;> with_reducible rfl
              try simp only [Act.put, List.setIfInBounds_toArray, List.set_cons_zero, List.set_cons_succ]
              refine rgs_t (v := ?_) (some 36) 17 (by kernel_rfl) rfl rfl (by assumption) (.inl ⟨by rfl, fun w' hw => ?_⟩) ?_
              rotate_left
              · obtain ⟨q1, q2, q3⟩ := hw; go_simp <;> with_reducible rfl
              try simp only [Act.put, List.setIfInBounds_toArray, List.set_cons_zero, List.set_cons_succ]
              refine rgs_t (v := ?_) (some 37) 18 (by kernel_rfl) rfl rfl (by assumption) (.inl ⟨by rfl, fun w' hw => ?_⟩) ?_
              rotate_left
              · obtain ⟨q1, q2, q3⟩ := hw; go_simp <;> with_reducible rfl
              try simp only [Act.put, List.setIfInBounds_toArray, List.set_cons_zero, List.set_cons_succ]
              refine rgs_t (some 38) 19 (by kernel_rfl) rfl rfl (by assumption) (.inr ⟨by rfl, rfl⟩) ?_
              try simp only [Act.put, List.setIfInBounds_toArray, List.set_cons_zero, List.set_cons_succ]
              refine rgs_t (some 39) 20 (by kernel_rfl) rfl rfl (by assumption) (.inr ⟨by rfl, rfl⟩) ?_
              try simp only [Act.put, List.setIfInBounds_toArray, List.set_cons_zero, List.set_cons_succ]
              refine rgs_t (some 40) 21 (by kernel_rfl) rfl rfl (by assumption) (.inr ⟨by rfl, rfl⟩) ?_
              try simp only [Act.put, List.setIfInBounds_toArray, List.set_cons_zero, List.set_cons_succ]
              refine rgs_t (some 41) 22 (by kernel_rfl) rfl rfl (by assumption) (.inr ⟨by rfl, rfl⟩) ?_
              try simp only [Act.put, List.setIfInBounds_toArray, List.set_cons_zero, List.set_cons_succ]
              refine rgs_t (some 42) 23 (by kernel_rfl) rfl rfl (by assumption) (.inr ⟨by rfl, rfl⟩) ?_
              try simp only [Act.put, List.setIfInBounds_toArray, List.set_cons_zero, List.set_cons_succ]
              refine rgs_t (some 43) 24 (by kernel_rfl) rfl rfl (by assumption) (.inr ⟨by rfl, rfl⟩) ?_
              try simp only [Act.put, List.setIfInBounds_toArray, List.set_cons_zero, List.set_cons_succ]
              refine rgs_t (some 44) 25 (by kernel_rfl) rfl rfl (by assumption) (.inr ⟨by rfl, rfl⟩) ?_
              try simp only [Act.put, List.setIfInBounds_toArray, List.set_cons_zero, List.set_cons_succ]
              refine rgs_t (some 45) 26 (by kernel_rfl) rfl rfl (by assumption) (.inr ⟨by rfl, rfl⟩) ?_
              try simp only [Act.put, List.setIfInBounds_toArray, List.set_cons_zero, List.set_cons_succ]
              refine rgs_t (some 46) 27 (by kernel_rfl) rfl rfl (by assumption) (.inr ⟨by rfl, rfl⟩) ?_
              try simp only [Act.put, List.setIfInBounds_toArray, List.set_cons_zero, List.set_cons_succ]
              refine rgs_t (some 47) 28 (by kernel_rfl) rfl rfl (by assumption) (.inr ⟨by rfl, rfl⟩) ?_
              try simp only [Act.put, List.setIfInBounds_toArray, List.set_cons_zero, List.set_cons_succ]
              refine rgs_t (some 48) 29 (by kernel_rfl) rfl rfl (by assumption) (.inr ⟨by rfl, rfl⟩) ?_
              try simp only [Act.put, List.setIfInBounds_toArray, List.set_cons_zero, List.set_cons_succ]
              refine rgs_t (v := ?_) (some 49) 30 (by kernel_rfl) rfl rfl (by assumption) (.inl ⟨by rfl, fun w' hw => ?_⟩) ?_
              rotate_left
              · obtain ⟨q1, q2, q3⟩ := hw; go_simp <;> with_reducible rfl
              try simp only [Act.put, List.setIfInBounds_toArray, List.set_cons_zero, List.set_cons_succ]
              refine rgs_t (v := ?_) (some 50) 31 (by kernel_rfl) rfl rfl (by assumption) (.inl ⟨by rfl, fun w' hw => ?_⟩) ?_
              rotate_left
              · obtain ⟨q1, q2, q3⟩ := hw; go_simp <;> with_reducible rfl
              try simp only [Act.put, List.setIfInBounds_toArray, List.set_cons_zero, List.set_cons_succ]
              refine rgs_d (by kernel_rfl) ?_
              go_wp2_with fail
              go_roundw
              case rel => first | exact ⟨.inr (.inr (.inr (.inl ⟨rfl, (by first | rfl | trivial), (by first | rfl | trivial), (by first | rfl | trivial)⟩))), z + 1, rfl⟩ | ((repeat apply Exists.intro); refine ⟨?_, rfl⟩; exact ⟨.inr (.inr (.inr (.inl ⟨rfl, (by first | rfl | trivial), (by first | rfl | trivial), (by first | rfl | trivial)⟩))), z + 1, rfl⟩)
              case measure => simp [intOf]
            · have hd3 : (w2f != 0) = true := by simp [hf]
              obtain rfl : f2 = false := by rw [← hn]; simp [hf]
              clear hn hf
              go_wp2_with fail
              have hS : (∀ i, (W2.drewN z).drew.cell? ⟨w.heap.size, i, none⟩ = (#[.int .i64 w0f, .int .i64 w0c, .int .i64 w1f, .int .i64 w1c, .int .i64 w2f, .int .i64 w2c, .int .i64 w3f, .int .i64 w3c] : Array Value)[i]?) ∧ True ∧ True := ⟨hq, trivial, trivial⟩
              refine rgs_start (fun w' => (∀ i, w'.cell? ⟨w.heap.size, i, none⟩ = (#[.int .i64 w0f, .int .i64 w0c, .int .i64 w1f, .int .i64 w1c, .int .i64 w2f, .int .i64 w2c, .int .i64 w3f, .int .i64 w3c] : Array Value)[i]?) ∧ True ∧ True) (by kernel_rfl) ?_
              refine rgs_t (v := ?_) (some 19) 0 (by kernel_rfl) rfl rfl (by assumption) (.inl ⟨by rfl, fun w' hw => ?_⟩) ?_
              rotate_left
              · obtain ⟨q1, q2, q3⟩ := hw; go_simp <;> with_reducible rfl
              try simp only [Act.put, List.setIfInBounds_toArray, List.set_cons_zero, List.set_cons_succ]
              refine rgs_t (v := ?_) (some 20) 1 (by kernel_rfl) rfl rfl (by assumption) (.inl ⟨by rfl, fun w' hw => ?_⟩) ?_
              rotate_left
              · obtain ⟨q1, q2, q3⟩ := hw; go_simp <;> with_reducible rfl
              try simp only [Act.put, List.setIfInBounds_toArray, List.set_cons_zero, List.set_cons_succ]
              refine rgs_t (v := ?_) (some 21) 2 (by kernel_rfl) rfl rfl (by assumption) (.inl ⟨by rfl, fun w' hw => ?_⟩) ?_
              rotate_left
              · obtain ⟨q1, q2, q3⟩ := hw; go_simp <;> with_reducible rfl
              try simp only [Act.put, List.setIfInBounds_toArray, List.set_cons_zero, List.set_cons_succ]
              refine rgs_t (v := ?_) (some 22) 3 (by kernel_rfl) rfl rfl (by assumption) (.inl ⟨by rfl, fun w' hw => ?_⟩) ?_
              rotate_left
              · obtain ⟨q1, q2, q3⟩ := hw; go_simp <;> with_reducible rfl
              try simp only [Act.put, List.setIfInBounds_toArray, List.set_cons_zero, List.set_cons_succ]
              refine rgs_t (v := ?_) (some 23) 4 (by kernel_rfl) rfl rfl (by assumption) (.inl ⟨by rfl, fun w' hw => ?_⟩) ?_
              rotate_left
              · obtain ⟨q1, q2, q3⟩ := hw; go_simp <;> with_reducible rfl
              try simp only [Act.put, List.setIfInBounds_toArray, List.set_cons_zero, List.set_cons_succ]
              refine rgs_t (v := ?_) (some 24) 5 (by kernel_rfl) rfl rfl (by assumption) (.inl ⟨by rfl, fun w' hw => ?_⟩) ?_
              rotate_left
              · obtain ⟨q1, q2, q3⟩ := hw; go_simp <;> with_reducible rfl
              try simp only [Act.put, List.setIfInBounds_toArray, List.set_cons_zero, List.set_cons_succ]
              refine rgs_t (v := ?_) (some 25) 6 (by kernel_rfl) rfl rfl (by assumption) (.inl ⟨by rfl, fun w' hw => ?_⟩) ?_
              rotate_left
              · obtain ⟨q1, q2, q3⟩ := hw; go_simp <;> with_reducible rfl
              try simp only [Act.put, List.setIfInBounds_toArray, List.set_cons_zero, List.set_cons_succ]
              refine rgs_t (v := ?_) (some 26) 7 (by kernel_rfl) rfl rfl (by assumption) (.inl ⟨by rfl, fun w' hw => ?_⟩) ?_
              rotate_left
              · obtain ⟨q1, q2, q3⟩ := hw; go_simp <;> with_reducible rfl
              try simp only [Act.put, List.setIfInBounds_toArray, List.set_cons_zero, List.set_cons_succ]
              refine rgs_t (v := ?_) (some 27) 8 (by kernel_rfl) rfl rfl (by assumption) (.inl ⟨by rfl, fun w' hw => ?_⟩) ?_
              rotate_left
              · obtain ⟨q1, q2, q3⟩ := hw; go_simp <;> with_reducible rfl
              try simp only [Act.put, List.setIfInBounds_toArray, List.set_cons_zero, List.set_cons_succ]
              refine rgs_t (v := ?_) (some 28) 9 (by kernel_rfl) rfl rfl (by assumption) (.inl ⟨by rfl, fun w' hw => ?_⟩) ?_
              rotate_left
              · obtain ⟨q1, q2, q3⟩ := hw; go_simp <;> with_reducible rfl
              try simp only [Act.put, List.setIfInBounds_toArray, List.set_cons_zero, List.set_cons_succ]
              refine rgs_t (v := ?_) (some 29) 10 (by kernel_rfl) rfl rfl (by assumption) (.inl ⟨by rfl, fun w' hw => ?_⟩) ?_
              rotate_left
              · obtain ⟨q1, q2, q3⟩ := hw; go_simp <;> with_reducible rfl
              try simp only [Act.put, List.setIfInBounds_toArray, List.set_cons_zero, List.set_cons_succ]
              refine rgs_t (v := ?_) (some 30) 11 (by kernel_rfl) rfl rfl (by assumption) (.inl ⟨by rfl, fun w' hw => ?_⟩) ?_
              rotate_left
              · obtain ⟨q1, q2, q3⟩ := hw; go_simp <;> with_reducible rfl
              try simp only [Act.put, List.setIfInBounds_toArray, List.set_cons_zero, List.set_cons_succ]
              refine rgs_t (v := ?_) (some 31) 12 (by kernel_rfl) rfl rfl (by assumption) (.inl ⟨by rfl, fun w' hw => ?_⟩) ?_
              rotate_left
              · obtain ⟨q1, q2, q3⟩ := hw; go_simp <;> with_reducible rfl
              try simp only [Act.put, List.setIfInBounds_toArray, List.set_cons_zero, List.set_cons_succ]
              refine rgs_t (some 32) 13 (by kernel_rfl) rfl rfl (by assumption) (.inr ⟨by rfl, rfl⟩) ?_
              try simp only [Act.put, List.setIfInBounds_toArray, List.set_cons_zero, List.set_cons_succ]
              refine rgs_t (some 33) 14 (by kernel_rfl) rfl rfl (by assumption) (.inr ⟨by rfl, rfl⟩) ?_
              try simp only [Act.put, List.setIfInBounds_toArray, List.set_cons_zero, List.set_cons_succ]
              refine rgs_t (some 34) 15 (by kernel_rfl) rfl rfl (by assumption) (.inr ⟨by rfl, rfl⟩) ?_
              try simp only [Act.put, List.setIfInBounds_toArray, List.set_cons_zero, List.set_cons_succ]
              refine rgs_t (some 35) 16 (by kernel_rfl) rfl rfl (by assumption) (.inr ⟨by rfl, rfl⟩) ?_
              try simp only [Act.put, List.setIfInBounds_toArray, List.set_cons_zero, List.set_cons_succ]
              refine rgs_t (some 36) 17 (by kernel_rfl) rfl rfl (by assumption) (.inr ⟨by rfl, rfl⟩) ?_
              try simp only [Act.put, List.setIfInBounds_toArray, List.set_cons_zero, List.set_cons_succ]
              refine rgs_t (some 37) 18 (by kernel_rfl) rfl rfl (by assumption) (.inr ⟨by rfl, rfl⟩) ?_
              try simp only [Act.put, List.setIfInBounds_toArray, List.set_cons_zero, List.set_cons_succ]
              refine rgs_t (some 38) 19 (by kernel_rfl) rfl rfl (by assumption) (.inr ⟨by rfl, rfl⟩) ?_
              try simp only [Act.put, List.setIfInBounds_toArray, List.set_cons_zero, List.set_cons_succ]
              refine rgs_t (some 39) 20 (by kernel_rfl) rfl rfl (by assumption) (.inr ⟨by rfl, rfl⟩) ?_
              try simp only [Act.put, List.setIfInBounds_toArray, List.set_cons_zero, List.set_cons_succ]
              refine rgs_t (some 40) 21 (by kernel_rfl) rfl rfl (by assumption) (.inr ⟨by rfl, rfl⟩) ?_
              try simp only [Act.put, List.setIfInBounds_toArray, List.set_cons_zero, List.set_cons_succ]
              refine rgs_t (some 41) 22 (by kernel_rfl) rfl rfl (by assumption) (.inr ⟨by rfl, rfl⟩) ?_
              try simp only [Act.put, List.setIfInBounds_toArray, List.set_cons_zero, List.set_cons_succ]
              refine rgs_t (some 42) 23 (by kernel_rfl) rfl rfl (by assumption) (.inr ⟨by rfl, rfl⟩) ?_
              try simp only [Act.put, List.setIfInBounds_toArray, List.set_cons_zero, List.set_cons_succ]
              refine rgs_t (some 43) 24 (by kernel_rfl) rfl rfl (by assumption) (.inr ⟨by rfl, rfl⟩) ?_
              try simp only [Act.put, List.setIfInBounds_toArray, List.set_cons_zero, List.set_cons_succ]
              refine rgs_t (some 44) 25 (by kernel_rfl) rfl rfl (by assumption) (.inr ⟨by rfl, rfl⟩) ?_
              try simp only [Act.put, List.setIfInBounds_toArray, List.set_cons_zero, List.set_cons_succ]
              refine rgs_t (some 45) 26 (by kernel_rfl) rfl rfl (by assumption) (.inr ⟨by rfl, rfl⟩) ?_
              try simp only [Act.put, List.setIfInBounds_toArray, List.set_cons_zero, List.set_cons_succ]
              refine rgs_t (some 46) 27 (by kernel_rfl) rfl rfl (by assumption) (.inr ⟨by rfl, rfl⟩) ?_
              try simp only [Act.put, List.setIfInBounds_toArray, List.set_cons_zero, List.set_cons_succ]
              refine rgs_t (some 47) 28 (by kernel_rfl) rfl rfl (by assumption) (.inr ⟨by rfl, rfl⟩) ?_
              try simp only [Act.put, List.setIfInBounds_toArray, List.set_cons_zero, List.set_cons_succ]
              refine rgs_t (some 48) 29 (by kernel_rfl) rfl rfl (by assumption) (.inr ⟨by rfl, rfl⟩) ?_
              try simp only [Act.put, List.setIfInBounds_toArray, List.set_cons_zero, List.set_cons_succ]
              refine rgs_t (some 49) 30 (by kernel_rfl) rfl rfl (by assumption) (.inr ⟨by rfl, rfl⟩) ?_
              try simp only [Act.put, List.setIfInBounds_toArray, List.set_cons_zero, List.set_cons_succ]
              refine rgs_t (v := ?_) (some 50) 31 (by kernel_rfl) rfl rfl (by assumption) (.inl ⟨by rfl, fun w' hw => ?_⟩) ?_
              rotate_left
              · obtain ⟨q1, q2, q3⟩ := hw; go_simp <;> with_reducible rfl
              try simp only [Act.put, List.setIfInBounds_toArray, List.set_cons_zero, List.set_cons_succ]
              refine rgs_d (by kernel_rfl) ?_
              have hz := HZ.out
              simp only [Bool.and_false, Bool.false_and, Bool.and_true, Bool.true_and, if_true] at hz
              subst hz
              go_wp2
              go_ret
              exact ⟨rfl, below_drew hbz⟩
        · by_cases hp : 0 < w3c
          · have hd1 : (w3c == 0) = false := by simp; omega
            have hd2 : decide (0 < w3c) = true := by simpa using hp
            go_wp2_with fail
            have hS : (∀ i, (W2.drewN z).drew.cell? ⟨w.heap.size, i, none⟩ = (#[.int .i64 w0f, .int .i64 w0c, .int .i64 w1f, .int .i64 w1c, .int .i64 w2f, .int .i64 w2c, .int .i64 w3f, .int .i64 w3c] : Array Value)[i]?) ∧ True ∧ True := ⟨hq, trivial, trivial⟩
            refine rgs_start (fun w' => (∀ i, w'.cell? ⟨w.heap.size, i, none⟩ = (#[.int .i64 w0f, .int .i64 w0c, .int .i64 w1f, .int .i64 w1c, .int .i64 w2f, .int .i64 w2c, .int .i64 w3f, .int .i64 w3c] : Array Value)[i]?) ∧ True ∧ True) (by kernel_rfl) ?_
            refine rgs_t (v := ?_) (some 19) 0 (by kernel_rfl) rfl rfl (by assumption) (.inl ⟨by rfl, fun w' hw => ?_⟩) ?_
            rotate_left
            · obtain ⟨q1, q2, q3⟩ := hw; go_simp <;> with_reducible rfl
            try simp only [Act.put, List.setIfInBounds_toArray, List.set_cons_zero, List.set_cons_succ]
            refine rgs_t (v := ?_) (some 20) 1 (by kernel_rfl) rfl rfl (by assumption) (.inl ⟨by rfl, fun w' hw => ?_⟩) ?_
            rotate_left
            · obtain ⟨q1, q2, q3⟩ := hw; go_simp <;> with_reducible rfl
            try simp only [Act.put, List.setIfInBounds_toArray, List.set_cons_zero, List.set_cons_succ]
            refine rgs_t (v := ?_) (some 21) 2 (by kernel_rfl) rfl rfl (by assumption) (.inl ⟨by rfl, fun w' hw => ?_⟩) ?_
            rotate_left
            · obtain ⟨q1, q2, q3⟩ := hw; go_simp <;> with_reducible rfl
            try simp only [Act.put, List.setIfInBounds_toArray, List.set_cons_zero, List.set_cons_succ]
            refine rgs_t (v := ?_) (some 22) 3 (by kernel_rfl) rfl rfl (by assumption) (.inl ⟨by rfl, fun w' hw => ?_⟩) ?_
            rotate_left
            · obtain ⟨q1, q2, q3⟩ := hw; go_simp <;> with_reducible rfl
            try simp only [Act.put, List.setIfInBounds_toArray, List.set_cons_zero, List.set_cons_succ]
            refine rgs_t (v := ?_) (some 23) 4 (by kernel_rfl) rfl rfl (by assumption) (.inl ⟨by rfl, fun w' hw => ?_⟩) ?_
            rotate_left
            · obtain ⟨q1, q2, q3⟩ := hw; go_simp <;> with_reducible rfl
            try simp only [Act.put, List.setIfInBounds_toArray, List.set_cons_zero, List.set_cons_succ]
            refine rgs_t (v := ?_) (some 24) 5 (by kernel_rfl) rfl rfl (by assumption) (.inl ⟨by rfl, fun w' hw => ?_⟩) ?_
            rotate_left
            · obtain ⟨q1, q2, q3⟩ := hw; go_simp <;> with_reducible rfl
            try simp only [Act.put, List.setIfInBounds_toArray, List.set_cons_zero, List.set_cons_succ]
            refine rgs_t (some 25) 6 (by kernel_rfl) rfl rfl (by assumption) (.inr ⟨by rfl, rfl⟩) ?_
            try simp only [Act.put, List.setIfInBounds_toArray, List.set_cons_zero, List.set_cons_succ]
            refine rgs_t (some 26) 7 (by kernel_rfl) rfl rfl (by assumption) (.inr ⟨by rfl, rfl⟩) ?_
            try simp only [Act.put, List.setIfInBounds_toArray, List.set_cons_zero, List.set_cons_succ]
            refine rgs_t (some 27) 8 (by kernel_rfl) rfl rfl (by assumption) (.inr ⟨by rfl, rfl⟩) ?_
            try simp only [Act.put, List.setIfInBounds_toArray, List.set_cons_zero, List.set_cons_succ]
            refine rgs_t (some 28) 9 (by kernel_rfl) rfl rfl (by assumption) (.inr ⟨by rfl, rfl⟩) ?_
            try simp only [Act.put, List.setIfInBounds_toArray, List.set_cons_zero, List.set_cons_succ]
            refine rgs_t (some 29) 10 (by kernel_rfl) rfl rfl (by assumption) (.inr ⟨by rfl, rfl⟩) ?_
            try simp only [Act.put, List.setIfInBounds_toArray, List.set_cons_zero, List.set_cons_succ]
            refine rgs_t (v := ?_) (some 30) 11 (by kernel_rfl) rfl rfl (by assumption) (.inl ⟨by rfl, fun w' hw => ?_⟩) ?_
            rotate_left
            · obtain ⟨q1, q2, q3⟩ := hw; go_simp <;> with_reducible rfl
            try simp only [Act.put, List.setIfInBounds_toArray, List.set_cons_zero, List.set_cons_succ]
            refine rgs_t (v := ?_) (some 31) 12 (by kernel_rfl) rfl rfl (by assumption) (.inl ⟨by rfl, fun w' hw => ?_⟩) ?_
            rotate_left
            · obtain ⟨q1, q2, q3⟩ := hw; go_simp <;> with_reducible rfl
            try simp only [Act.put, List.setIfInBounds_toArray, List.set_cons_zero, List.set_cons_succ]
            refine rgs_t (v := ?_) (some 32) 13 (by kernel_rfl) rfl rfl (by assumption) (.inl ⟨by rfl, fun w' hw => ?_⟩) ?_
            rotate_left
            · obtain ⟨q1, q2, q3⟩ := hw; go_simp <;> with_reducible rfl
            try simp only [Act.put, List.setIfInBounds_toArray, List.set_cons_zero, List.set_cons_succ]
            refine rgs_t (v := ?_) (some 33) 14 (by kernel_rfl) rfl rfl (by assumption) (.inl ⟨by rfl, fun w' hw => ?_⟩) ?_
            rotate_left
            · obtain ⟨q1, q2, q3⟩ := hw; go_simp <;> with_reducible rfl
            try simp only [Act.put, List.setIfInBounds_toArray, List.set_cons_zero, List.set_cons_succ]
            refine rgs_t (v := ?_) (some 34) 15 (by kernel_rfl) rfl rfl (by assumption) (.inl ⟨by rfl, fun w' hw => ?_⟩) ?_
            rotate_left
            · obtain ⟨q1, q2, q3⟩ := hw; go_simp <;> with_reducible rfl
            try simp only [Act.put, List.setIfInBounds_toArray, List.set_cons_zero, List.set_cons_succ]
            refine rgs_t (v := ?_) (some 35) 16 (by kernel_rfl) rfl rfl (by assumption) (.inl ⟨by rfl, fun w' hw => ?_⟩) ?_
            rotate_left
            · obtain ⟨q1, q2, q3⟩ := hw; go_simp <;> with_reducible rfl
            try simp only [Act.put, List.setIfInBounds_toArray, List.set_cons_zero, List.set_cons_succ]
            refine rgs_t (v := ?_) (some 36) 17 (by kernel_rfl) rfl rfl (by assumption) (.inl ⟨by rfl, fun w' hw => ?_⟩) ?_
            rotate_left
            · obtain ⟨q1, q2, q3⟩ := hw; go_simp <;> with_reducible rfl
            try simp only [Act.put, List.setIfInBounds_toArray, List.set_cons_zero, List.set_cons_succ]
            refine rgs_t (v := ?_) (some 37) 18 (by kernel_rfl) rfl rfl (by assumption) (.inl ⟨by rfl, fun w' hw => ?_⟩) ?_
            rotate_left
            · obtain ⟨q1, q2, q3⟩ := hw; go_simp <;> with_reducible rfl
            try simp only [Act.put, List.setIfInBounds_toArray, List.set_cons_zero, List.set_cons_succ]
            refine rgs_t (v := ?_) (some 38) 19 (by kernel_rfl) rfl rfl (by assumption) (.inl ⟨by rfl, fun w' hw => ?_⟩) ?_
            rotate_left
            · obtain ⟨q1, q2, q3⟩ := hw; go_simp <;> with_reducible rfl
            try simp only [Act.put, List.setIfInBounds_toArray, List.set_cons_zero, List.set_cons_succ]
            refine rgs_t (v := ?_) (some 39) 20 (by kernel_rfl) rfl rfl (by assumption) (.inl ⟨by rfl, fun w' hw => ?_⟩) ?_
            rotate_left
            · obtain ⟨q1, q2, q3⟩ := hw; go_simp <;> with_reducible rfl
            try simp only [Act.put, List.setIfInBounds_toArray, List.set_cons_zero, List.set_cons_succ]
            refine rgs_t (v := ?_) (some 40) 21 (by kernel_rfl) rfl rfl (by assumption) (.inl ⟨by rfl, fun w' hw => ?_⟩) ?_
            rotate_left
            · obtain ⟨q1, q2, q3⟩ := hw; go_simp <;> with_reducible rfl
            try simp only [Act.put, List.setIfInBounds_toArray, List.set_cons_zero, List.set_cons_succ]
            refine rgs_t (v := ?_) (some 41) 22 (by kernel_rfl) rfl rfl (by assumption) (.inl ⟨by rfl, fun w' hw => ?_⟩) ?_
            rotate_left
            · obtain ⟨q1, q2, q3⟩ := hw; go_simp <;> with_reducible rfl
            try simp only [Act.put, List.setIfInBounds_toArray, List.set_cons_zero, List.set_cons_succ]
            refine rgs_t (v := ?_) (some 42) 23 (by kernel_rfl) rfl rfl (by assumption) (.inl ⟨by rfl, fun w' hw => ?_⟩) ?_
            rotate_left
            · obtain ⟨q1, q2, q3⟩ := hw; go_simp <;> with_reducible rfl
            try simp only [Act.put, List.setIfInBounds_toArray, List.set_cons_zero, List.set_cons_succ]
            refine rgs_t (v := ?_) (some 43) 24 (by kernel_rfl) rfl rfl (by assumption) (.inl ⟨by rfl, fun w' hw => ?_⟩) ?_
            rotate_left
            · obtain ⟨q1, q2, q3⟩ := hw; go_simp <;> with_reducible rfl
            try simp only [Act.put, List.setIfInBounds_toArray, List.set_cons_zero, List.set_cons_succ]
            refine rgs_t (v := ?_) (some 44) 25 (by kernel_rfl) rfl rfl (by assumption) (.inl ⟨by rfl, fun w' hw => ?_⟩) ?_
            rotate_left
            · obtain ⟨q1, q2, q3⟩ := hw; go_simp <;> with_reducible rfl
            try simp only [Act.put, List.setIfInBounds_toArray, List.set_cons_zero, List.set_cons_succ]
            refine rgs_t (v := ?_) (some 45) 26 (by kernel_rfl) rfl rfl (by assumption) (.inl ⟨by rfl, fun w' hw => ?_⟩) ?_
            rotate_left
            · obtain ⟨q1, q2, q3⟩ := hw; go_simp <;> with_reducible rfl
            try simp only [Act.put, List.setIfInBounds_toArray, List.set_cons_zero, List.set_cons_succ]
            refine rgs_t (v := ?_) (some 46) 27 (by kernel_rfl) rfl rfl (by assumption) (.inl ⟨by rfl, fun w' hw => ?_⟩) ?_
            rotate_left
            · obtain ⟨q1, q2, q3⟩ := hw; go_simp <;> with_reducible rfl
            try simp only [Act.put, List.setIfInBounds_toArray, List.set_cons_zero, List.set_cons_succ]
            refine rgs_q (v := ?_) (some 47) 28 (by kernel_rfl) rfl rfl (by assumption) (by rfl) (fun w' hw K hK => ?_) ?_
            rotate_left
            · obtain ⟨q1, q2, q3⟩ := hw
              go_simp
              refine (HF3.out hp _ (by first | rfl | exact (IntWalk.i64_in _ ⟨by omega, by omega⟩).symm) _).mono ?_
              rintro e w1 ⟨rfl, rfl⟩
              exact hK
            try simp only [Act.put, List.setIfInBounds_toArray, List.set_cons_zero, List.set_cons_succ]
            refine rgs_t (v := ?_) (some 48) 29 (by kernel_rfl) rfl rfl (by assumption) (.inl ⟨by rfl, fun w' hw => ?_⟩) ?_
            rotate_left
            · obtain ⟨q1, q2, q3⟩ := hw; go_simp <;> with_reducible rfl
            try simp only [Act.put, List.setIfInBounds_toArray, List.set_cons_zero, List.set_cons_succ]
            refine rgs_t (v := ?_) (some 49) 30 (by kernel_rfl) rfl rfl (by assumption) (.inl ⟨by rfl, fun w' hw => ?_⟩) ?_
            rotate_left
            · obtain ⟨q1, q2, q3⟩ := hw; go_simp <;> with_reducible rfl
            try simp only [Act.put, List.setIfInBounds_toArray, List.set_cons_zero, List.set_cons_succ]
            refine rgs_t (v := ?_) (some 50) 31 (by kernel_rfl) rfl rfl (by assumption) (.inl ⟨by rfl, fun w' hw => ?_⟩) ?_
            rotate_left
            · obtain ⟨q1, q2, q3⟩ := hw; go_simp <;> with_reducible rfl
            try simp only [Act.put, List.setIfInBounds_toArray, List.set_cons_zero, List.set_cons_succ]
            refine rgs_d (by kernel_rfl) ?_
            cases f3
            · have hz := HZ.out
              simp only [Bool.and_false, Bool.false_and, Bool.and_true, Bool.true_and, if_true] at hz
              subst hz
              go_wp2
              go_ret
              exact ⟨rfl, below_drew hbz⟩
            · go_wp2_with fail
              go_roundw
              case rel => first | exact ⟨.inr (.inr (.inr (.inr (⟨rfl, (by first | rfl | trivial), (by first | rfl | trivial), (by first | rfl | trivial), (by first | rfl | trivial)⟩)))), z + 1, rfl⟩ | ((repeat apply Exists.intro); refine ⟨?_, rfl⟩; exact ⟨.inr (.inr (.inr (.inr (⟨rfl, (by first | rfl | trivial), (by first | rfl | trivial), (by first | rfl | trivial), (by first | rfl | trivial)⟩)))), z + 1, rfl⟩)
              case measure => simp [intOf]
          · have hn := HN3.out (by omega)
            have hd1 : (w3c == 0) = true := by simp; omega
            have hd2 : decide (0 < w3c) = false := by simpa using hp
            by_cases hf : w3f = 0
            · have hd3 : (w3f != 0) = false := by simp [hf]
              obtain rfl : f3 = true := by rw [← hn]; simp [hf]
              clear hn hf
              go_wp2_with fail
              have hS : (∀ i, (W2.drewN z).drew.cell? ⟨w.heap.size, i, none⟩ = (#[.int .i64 w0f, .int .i64 w0c, .int .i64 w1f, .int .i64 w1c, .int .i64 w2f, .int .i64 w2c, .int .i64 w3f, .int .i64 w3c] : Array Value)[i]?) ∧ True ∧ True := ⟨hq, trivial, trivial⟩
              refine rgs_start (fun w' => (∀ i, w'.cell? ⟨w.heap.size, i, none⟩ = (#[.int .i64 w0f, .int .i64 w0c, .int .i64 w1f, .int .i64 w1c, .int .i64 w2f, .int .i64 w2c, .int .i64 w3f, .int .i64 w3c] : Array Value)[i]?) ∧ True ∧ True) (by kernel_rfl) ?_
              refine rgs_t (v := ?_) (some 19) 0 (by kernel_rfl) rfl rfl (by assumption) (.inl ⟨by rfl, fun w' hw => ?_⟩) ?_
              rotate_left
              · obtain ⟨q1, q2, q3⟩ := hw; go_simp <;> with_reducible rfl
              try simp only [Act.put, List.setIfInBounds_toArray, List.set_cons_zero, List.set_cons_succ]
              refine rgs_t (v := ?_) (some 20) 1 (by kernel_rfl) rfl rfl (by assumption) (.inl ⟨by rfl, fun w' hw => ?_⟩) ?_
              rotate_left
              · obtain ⟨q1, q2, q3⟩ := hw; go_simp <;> with_reducible rfl
              try simp only [Act.put, List.setIfInBounds_toArray, List.set_cons_zero, List.set_cons_succ]
              refine rgs_t (v := ?_) (some 21) 2 (by kernel_rfl) rfl rfl (by assumption) (.inl ⟨by rfl, fun w' hw => ?_⟩) ?_
              rotate_left
              · obtain ⟨q1, q2, q3⟩ := hw; go_simp <;> with_reducible rfl
              try simp only [Act.put, List.setIfInBounds_toArray, List.set_cons_zero, List.set_cons_succ]
              refine rgs_t (v := ?_) (some 22) 3 (by kernel_rfl) rfl rfl (by assumption) (.inl ⟨by rfl, fun w' hw => ?_⟩) ?_
              rotate_left
              · obtain ⟨q1, q2, q3⟩ := hw; go_simp <;> with_reducible rfl
              try simp only [Act.put, List.setIfInBounds_toArray, List.set_cons_zero, List.set_cons_succ]
              refine rgs_t (v := ?_) (some 23) 4 (by kernel_rfl) rfl rfl (by assumption) (.inl ⟨by rfl, fun w' hw => ?_⟩) ?_
              rotate_left
              · obtain ⟨q1, q2, q3⟩ := hw; go_simp <;> with_reducible rfl
              try simp only [Act.put, List.setIfInBounds_toArray, List.set_cons_zero, List.set_cons_succ]
              refine rgs_t (v := ?_) (some 24) 5 (by kernel_rfl) rfl rfl (by assumption) (.inl ⟨by rfl, fun w' hw => ?_⟩) ?_
              rotate_left
              · obtain ⟨q1, q2, q3⟩ := hw; go_simp <;> with_reducible rfl
              try simp only [Act.put, List.setIfInBounds_toArray, List.set_cons_zero, List.set_cons_succ]
              refine rgs_t (v := ?_) (some 25) 6 (by kernel_rfl) rfl rfl (by assumption) (.inl ⟨by rfl, fun w' hw => ?_⟩) ?_
              rotate_left
              · obtain ⟨q1, q2, q3⟩ := hw; go_simp <;> with_reducible rfl
              try simp only [Act.put, List.setIfInBounds_toArray, List.set_cons_zero, List.set_cons_succ]
              refine rgs_t (v := ?_) (some 26) 7 (by kernel_rfl) rfl rfl (by assumption) (.inl ⟨by rfl, fun w' hw => ?_⟩) ?_
              rotate_left
              · obtain ⟨q1, q2, q3⟩ := hw; go_simp <;> with_reducible rfl
              try simp only [Act.put, List.setIfInBounds_toArray, List.set_cons_zero, List.set_cons_succ]
              refine rgs_t (v := ?_) (some 27) 8 (by kernel_rfl) rfl rfl (by assumption) (.inl ⟨by rfl, fun w' hw => ?_⟩) ?_
              rotate_left
              · obtain ⟨q1, q2, q3⟩ := hw; go_simp <;> with_reducible rfl
              try simp only [Act.put, List.setIfInBounds_toArray, List.set_cons_zero, List.set_cons_succ]
              refine rgs_t (v := ?_) (some 28) 9 (by kernel_rfl) rfl rfl (by assumption) (.inl ⟨by rfl, fun w' hw => ?_⟩) ?_
              rotate_left
              · obtain ⟨q1, q2, q3⟩ := hw; go_simp <;> with_reducible rfl
              try simp only [Act.put, List.setIfInBounds_toArray, List.set_cons_zero, List.set_cons_succ]
              refine rgs_t (v := ?_) (some 29) 10 (by kernel_rfl) rfl rfl (by assumption) (.inl ⟨by rfl, fun w' hw => ?_⟩) ?_
              rotate_left
              · obtain ⟨q1, q2, q3⟩ := hw; go_simp <;> with_reducible rfl
              try simp only [Act.put, List.setIfInBounds_toArray, List.set_cons_zero, List.set_cons_succ]
              refine rgs_t (v := ?_) (some 30) 11 (by kernel_rfl) rfl rfl (by assumption) (.inl ⟨by rfl, fun w' hw => ?_⟩) ?_
              rotate_left
              · obtain ⟨q1, q2, q3⟩ := hw; go_simp <;> with_reducible rfl
              try simp only [Act.put, List.setIfInBounds_toArray, List.set_cons_zero, List.set_cons_succ]
              refine rgs_t (v := ?_) (some 31) 12 (by kernel_rfl) rfl rfl (by assumption) (.inl ⟨by rfl, fun w' hw => ?_⟩) ?_
              rotate_left
              · obtain ⟨q1, q2, q3⟩ := hw; go_simp <;> with_reducible rfl
              try simp only [Act.put, List.setIfInBounds_toArray, List.set_cons_zero, List.set_cons_succ]
              refine rgs_t (v := ?_) (some 32) 13 (by kernel_rfl) rfl rfl (by assumption) (.inl ⟨by rfl, fun w' hw => ?_⟩) ?_
              rotate_left
              · obtain ⟨q1, q2, q3⟩ := hw; go_simp <;> with_reducible rfl
              try simp only [Act.put, List.setIfInBounds_toArray, List.set_cons_zero, List.set_cons_succ]
              refine rgs_t (v := ?_) (some 33) 14 (by kernel_rfl) rfl rfl (by assumption) (.inl ⟨by rfl, fun w' hw => ?_⟩) ?_
              rotate_left
              · obtain ⟨q1, q2, q3⟩ := hw; go_simp <;> with_reducible rfl
              try simp only [Act.put, List.setIfInBounds_toArray, List.set_cons_zero, List.set_cons_succ]
              refine rgs_t (v := ?_) (some 34) 15 (by kernel_rfl) rfl rfl (by assumption) (.inl ⟨by rfl, fun w' hw => ?_⟩) ?_
              rotate_left
              · obtain ⟨q1, q2, q3⟩ := hw; go_simp <;> with_reducible rfl
              try simp only [Act.put, List.setIfInBounds_toArray, List.set_cons_zero, List.set_cons_succ]
              refine rgs_t (v := ?_) (some 35) 16 (by kernel_rfl) rfl rfl (by assumption) (.inl ⟨by rfl, fun w' hw => ?_⟩) ?_
              rotate_left
              · obtain ⟨q1, q2, q3⟩ := hw; go_simp <;> with_reducible rfl
              try simp only [Act.put, List.setIfInBounds_toArray, List.set_cons_zero, List.set_cons_succ]
              refine rgs_t (v := ?_) (some 36) 17 (by kernel_rfl) rfl rfl (by assumption) (.inl ⟨by rfl, fun w' hw => ?_⟩) ?_
              rotate_left
              · obtain ⟨q1, q2, q3⟩ := hw; go_simp <;> with_reducible rfl
              try simp only [Act.put, List.setIfInBounds_toArray, List.set_cons_zero, List.set_cons_succ]
              refine rgs_t (v := ?_) (some 37) 18 (by kernel_rfl) rfl rfl (by assumption) (.inl ⟨by rfl, fun w' hw => ?_⟩) ?_
              rotate_left
              · obtain ⟨q1, q2, q3⟩ := hw; go_simp <;> with_reducible rfl
              try simp only [Act.put, List.setIfInBounds_toArray, List.set_cons_zero, List.set_cons_succ]
              refine rgs_t (some 38) 19 (by kernel_rfl) rfl rfl (by assumption) (.inr ⟨by rfl, rfl⟩) ?_
              try simp only [Act.put, List.setIfInBounds_toArray, List.set_cons_zero, List.set_cons_succ]
              refine rgs_t (some 39) 20 (by kernel_rfl) rfl rfl (by assumption) (.inr ⟨by rfl, rfl⟩) ?_
              try simp only [Act.put, List.setIfInBounds_toArray, List.set_cons_zero, List.set_cons_succ]
              refine rgs_t (some 40) 21 (by kernel_rfl) rfl rfl (by assumption) (.inr ⟨by rfl, rfl⟩) ?_
              try simp only [Act.put, List.setIfInBounds_toArray, List.set_cons_zero, List.set_cons_succ]
              refine rgs_t (some 41) 22 (by kernel_rfl) rfl rfl (by assumption) (.inr ⟨by rfl, rfl⟩) ?_
              try simp only [Act.put, List.setIfInBounds_toArray, List.set_cons_zero, List.set_cons_succ]
              refine rgs_t (some 42) 23 (by kernel_rfl) rfl rfl (by assumption) (.inr ⟨by rfl, rfl⟩) ?_
              try simp only [Act.put, List.setIfInBounds_toArray, List.set_cons_zero, List.set_cons_succ]
              refine rgs_t (some 43) 24 (by kernel_rfl) rfl rfl (by assumption) (.inr ⟨by rfl, rfl⟩) ?_
              try simp only [Act.put, List.setIfInBounds_toArray, List.set_cons_zero, List.set_cons_succ]
              refine rgs_t (some 44) 25 (by kernel_rfl) rfl rfl (by assumption) (.inr ⟨by rfl, rfl⟩) ?_
              try simp only [Act.put, List.setIfInBounds_toArray, List.set_cons_zero, List.set_cons_succ]
              refine rgs_t (some 45) 26 (by kernel_rfl) rfl rfl (by assumption) (.inr ⟨by rfl, rfl⟩) ?_
              try simp only [Act.put, List.setIfInBounds_toArray, List.set_cons_zero, List.set_cons_succ]
              refine rgs_t (some 46) 27 (by kernel_rfl) rfl rfl (by assumption) (.inr ⟨by rfl, rfl⟩) ?_
              try simp only [Act.put, List.setIfInBounds_toArray, List.set_cons_zero, List.set_cons_succ]
              refine rgs_t (some 47) 28 (by kernel_rfl) rfl rfl (by assumption) (.inr ⟨by rfl, rfl⟩) ?_
              try simp only [Act.put, List.setIfInBounds_toArray, List.set_cons_zero, List.set_cons_succ]
              refine rgs_t (some 48) 29 (by kernel_rfl) rfl rfl (by assumption) (.inr ⟨by rfl, rfl⟩) ?_
              try simp only [Act.put, List.setIfInBounds_toArray, List.set_cons_zero, List.set_cons_succ]
              refine rgs_t (v := ?_) (some 49) 30 (by kernel_rfl) rfl rfl (by assumption) (.inl ⟨by rfl, fun w' hw => ?_⟩) ?_
              rotate_left
              · obtain ⟨q1, q2, q3⟩ := hw; go_simp <;> with_reducible rfl
              try simp only [Act.put, List.setIfInBounds_toArray, List.set_cons_zero, List.set_cons_succ]
              refine rgs_t (v := ?_) (some 50) 31 (by kernel_rfl) rfl rfl (by assumption) (.inl ⟨by rfl, fun w' hw => ?_⟩) ?_
              rotate_left
              · obtain ⟨q1, q2, q3⟩ := hw; go_simp <;> with_reducible rfl
              try simp only [Act.put, List.setIfInBounds_toArray, List.set_cons_zero, List.set_cons_succ]
              refine rgs_d (by kernel_rfl) ?_
              go_wp2_with fail
              go_roundw
              case rel => first | exact ⟨.inr (.inr (.inr (.inr (⟨rfl, (by first | rfl | trivial), (by first | rfl | trivial), (by first | rfl | trivial), (by first | rfl | trivial)⟩)))), z + 1, rfl⟩ | ((repeat apply Exists.intro); refine ⟨?_, rfl⟩; exact ⟨.inr (.inr (.inr (.inr (⟨rfl, (by first | rfl | trivial), (by first | rfl | trivial), (by first | rfl | trivial), (by first | rfl | trivial)⟩)))), z + 1, rfl⟩)
              case measure => simp [intOf]
            · have hd3 : (w3f != 0) = true := by simp [hf]
              obtain rfl : f3 = false := by rw [← hn]; simp [hf]
              clear hn hf
              go_wp2_with fail
              have hS : (∀ i, (W2.drewN z).drew.cell? ⟨w.heap.size, i, none⟩ = (#[.int .i64 w0f, .int .i64 w0c, .int .i64 w1f, .int .i64 w1c, .int .i64 w2f, .int .i64 w2c, .int .i64 w3f, .int .i64 w3c] : Array Value)[i]?) ∧ True ∧ True := ⟨hq, trivial, trivial⟩
              refine rgs_start (fun w' => (∀ i, w'.cell? ⟨w.heap.size, i, none⟩ = (#[.int .i64 w0f, .int .i64 w0c, .int .i64 w1f, .int .i64 w1c, .int .i64 w2f, .int .i64 w2c, .int .i64 w3f, .int .i64 w3c] : Array Value)[i]?) ∧ True ∧ True) (by kernel_rfl) ?_
              refine rgs_t (v := ?_) (some 19) 0 (by kernel_rfl) rfl rfl (by assumption) (.inl ⟨by rfl, fun w' hw => ?_⟩) ?_
              rotate_left
              · obtain ⟨q1, q2, q3⟩ := hw; go_simp <;> with_reducible rfl
              try simp only [Act.put, List.setIfInBounds_toArray, List.set_cons_zero, List.set_cons_succ]
              refine rgs_t (v := ?_) (some 20) 1 (by kernel_rfl) rfl rfl (by assumption) (.inl ⟨by rfl, fun w' hw => ?_⟩) ?_
              rotate_left
              · obtain ⟨q1, q2, q3⟩ := hw; go_simp <;> with_reducible rfl
              try simp only [Act.put, List.setIfInBounds_toArray, List.set_cons_zero, List.set_cons_succ]
              refine rgs_t (v := ?_) (some 21) 2 (by kernel_rfl) rfl rfl (by assumption) (.inl ⟨by rfl, fun w' hw => ?_⟩) ?_
              rotate_left
              · obtain ⟨q1, q2, q3⟩ := hw; go_simp <;> with_reducible rfl
              try simp only [Act.put, List.setIfInBounds_toArray, List.set_cons_zero, List.set_cons_succ]
              refine rgs_t (v := ?_) (some 22) 3 (by kernel_rfl) rfl rfl (by assumption) (.inl ⟨by rfl, fun w' hw => ?_⟩) ?_
              rotate_left
              · obtain ⟨q1, q2, q3⟩ := hw; go_simp <;> with_reducible rfl
              try simp only [Act.put, List.setIfInBounds_toArray, List.set_cons_zero, List.set_cons_succ]
              refine rgs_t (v := ?_) (some 23) 4 (by kernel_rfl) rfl rfl (by assumption) (.inl ⟨by rfl, fun w' hw => ?_⟩) ?_
              rotate_left
              · obtain ⟨q1, q2, q3⟩ := hw; go_simp <;> with_reducible rfl
              try simp only [Act.put, List.setIfInBounds_toArray, List.set_cons_zero, List.set_cons_succ]
              refine rgs_t (v := ?_) (some 24) 5 (by kernel_rfl) rfl rfl (by assumption) (.inl ⟨by rfl, fun w' hw => ?_⟩) ?_
              rotate_left
              · obtain ⟨q1, q2, q3⟩ := hw; go_simp <;> with_reducible rfl
              try simp only [Act.put, List.setIfInBounds_toArray, List.set_cons_zero, List.set_cons_succ]
              refine rgs_t (v := ?_) (some 25) 6 (by kernel_rfl) rfl rfl (by assumption) (.inl ⟨by rfl, fun w' hw => ?_⟩) ?_
              rotate_left
              · obtain ⟨q1, q2, q3⟩ := hw; go_simp <;> with_reducible rfl
              try simp only [Act.put, List.setIfInBounds_toArray, List.set_cons_zero, List.set_cons_succ]
              refine rgs_t (v := ?_) (some 26) 7 (by kernel_rfl) rfl rfl (by assumption) (.inl ⟨by rfl, fun w' hw => ?_⟩) ?_
              rotate_left
              · obtain ⟨q1, q2, q3⟩ := hw; go_simp <;> with_reducible rfl
              try simp only [Act.put, List.setIfInBounds_toArray, List.set_cons_zero, List.set_cons_succ]
              refine rgs_t (v := ?_) (some 27) 8 (by kernel_rfl) rfl rfl (by assumption) (.inl ⟨by rfl, fun w' hw => ?_⟩) ?_
              rotate_left
              · obtain ⟨q1, q2, q3⟩ := hw; go_simp <;> with_reducible rfl
              try simp only [Act.put, List.setIfInBounds_toArray, List.set_cons_zero, List.set_cons_succ]
              refine rgs_t (v := ?_) (some 28) 9 (by kernel_rfl) rfl rfl (by assumption) (.inl ⟨by rfl, fun w' hw => ?_⟩) ?_
              rotate_left
              · obtain ⟨q1, q2, q3⟩ := hw; go_simp <;> with_reducible rfl
              try simp only [Act.put, List.setIfInBounds_toArray, List.set_cons_zero, List.set_cons_succ]
              refine rgs_t (v := ?_) (some 29) 10 (by kernel_rfl) rfl rfl (by assumption) (.inl ⟨by rfl, fun w' hw => ?_⟩) ?_
              rotate_left
              · obtain ⟨q1, q2, q3⟩ := hw; go_simp <;> with_reducible rfl
              try simp only [Act.put, List.setIfInBounds_toArray, List.set_cons_zero, List.set_cons_succ]
              refine rgs_t (v := ?_) (some 30) 11 (by kernel_rfl) rfl rfl (by assumption) (.inl ⟨by rfl, fun w' hw => ?_⟩) ?_
              rotate_left
              · obtain ⟨q1, q2, q3⟩ := hw; go_simp <;> with_reducible rfl
              try simp only [Act.put, List.setIfInBounds_toArray, List.set_cons_zero, List.set_cons_succ]
              refine rgs_t (v := ?_) (some 31) 12 (by kernel_rfl) rfl rfl (by assumption) (.inl ⟨by rfl, fun w' hw => ?_⟩) ?_
              rotate_left
              · obtain ⟨q1, q2, q3⟩ := hw; go_simp <;> with_reducible rfl
              try simp only [Act.put, List.setIfInBounds_toArray, List.set_cons_zero, List.set_cons_succ]
              refine rgs_t (some 32) 13 (by kernel_rfl) rfl rfl (by assumption) (.inr ⟨by rfl, rfl⟩) ?_
              try simp only [Act.put, List.setIfInBounds_toArray, List.set_cons_zero, List.set_cons_succ]
              refine rgs_t (some 33) 14 (by kernel_rfl) rfl rfl (by assumption) (.inr ⟨by rfl, rfl⟩) ?_
              try simp only [Act.put, List.setIfInBounds_toArray, List.set_cons_zero, List.set_cons_succ]
              refine rgs_t (some 34) 15 (by kernel_rfl) rfl rfl (by assumption) (.inr ⟨by rfl, rfl⟩) ?_
              try simp only [Act.put, List.setIfInBounds_toArray, List.set_cons_zero, List.set_cons_succ]
              refine rgs_t (some 35) 16 (by kernel_rfl) rfl rfl (by assumption) (.inr ⟨by rfl, rfl⟩) ?_
              try simp only [Act.put, List.setIfInBounds_toArray, List.set_cons_zero, List.set_cons_succ]
              refine rgs_t (some 36) 17 (by kernel_rfl) rfl rfl (by assumption) (.inr ⟨by rfl, rfl⟩) ?_
              try simp only [Act.put, List.setIfInBounds_toArray, List.set_cons_zero, List.set_cons_succ]
              refine rgs_t (some 37) 18 (by kernel_rfl) rfl rfl (by assumption) (.inr ⟨by rfl, rfl⟩) ?_
              try simp only [Act.put, List.setIfInBounds_toArray, List.set_cons_zero, List.set_cons_succ]
              refine rgs_t (some 38) 19 (by kernel_rfl) rfl rfl (by assumption) (.inr ⟨by rfl, rfl⟩) ?_
              try simp only [Act.put, List.setIfInBounds_toArray, List.set_cons_zero, List.set_cons_succ]
              refine rgs_t (some 39) 20 (by kernel_rfl) rfl rfl (by assumption) (.inr ⟨by rfl, rfl⟩) ?_
              try simp only [Act.put, List.setIfInBounds_toArray, List.set_cons_zero, List.set_cons_succ]
              refine rgs_t (some 40) 21 (by kernel_rfl) rfl rfl (by assumption) (.inr ⟨by rfl, rfl⟩) ?_
              try simp only [Act.put, List.setIfInBounds_toArray, List.set_cons_zero, List.set_cons_succ]
              refine rgs_t (some 41) 22 (by kernel_rfl) rfl rfl (by assumption) (.inr ⟨by rfl, rfl⟩) ?_
              try simp only [Act.put, List.setIfInBounds_toArray, List.set_cons_zero, List.set_cons_succ]
              refine rgs_t (some 42) 23 (by kernel_rfl) rfl rfl (by assumption) (.inr ⟨by rfl, rfl⟩) ?_
              try simp only [Act.put, List.setIfInBounds_toArray, List.set_cons_zero, List.set_cons_succ]
              refine rgs_t (some 43) 24 (by kernel_rfl) rfl rfl (by assumption) (.inr ⟨by rfl, rfl⟩) ?_
              try simp only [Act.put, List.setIfInBounds_toArray, List.set_cons_zero, List.set_cons_succ]
              refine rgs_t (some 44) 25 (by kernel_rfl) rfl rfl (by assumption) (.inr ⟨by rfl, rfl⟩) ?_
              try simp only [Act.put, List.setIfInBounds_toArray, List.set_cons_zero, List.set_cons_succ]
              refine rgs_t (some 45) 26 (by kernel_rfl) rfl rfl (by assumption) (.inr ⟨by rfl, rfl⟩) ?_
              try simp only [Act.put, List.setIfInBounds_toArray, List.set_cons_zero, List.set_cons_succ]
              refine rgs_t (some 46) 27 (by kernel_rfl) rfl rfl (by assumption) (.inr ⟨by rfl, rfl⟩) ?_
              try simp only [Act.put, List.setIfInBounds_toArray, List.set_cons_zero, List.set_cons_succ]
              refine rgs_t (some 47) 28 (by kernel_rfl) rfl rfl (by assumption) (.inr ⟨by rfl, rfl⟩) ?_
              try simp only [Act.put, List.setIfInBounds_toArray, List.set_cons_zero, List.set_cons_succ]
              refine rgs_t (some 48) 29 (by kernel_rfl) rfl rfl (by assumption) (.inr ⟨by rfl, rfl⟩) ?_
              try simp only [Act.put, List.setIfInBounds_toArray, List.set_cons_zero, List.set_cons_succ]
              refine rgs_t (some 49) 30 (by kernel_rfl) rfl rfl (by assumption) (.inr ⟨by rfl, rfl⟩) ?_
              try simp only [Act.put, List.setIfInBounds_toArray, List.set_cons_zero, List.set_cons_succ]
              refine rgs_t (v := ?_) (some 50) 31 (by kernel_rfl) rfl rfl (by assumption) (.inl ⟨by rfl, fun w' hw => ?_⟩) ?_
              rotate_left
              · obtain ⟨q1, q2, q3⟩ := hw; go_simp <;> with_reducible rfl
              try simp only [Act.put, List.setIfInBounds_toArray, List.set_cons_zero, List.set_cons_succ]
              refine rgs_d (by kernel_rfl) ?_
              have hz := HZ.out
              simp only [Bool.and_false, Bool.false_and, Bool.and_true, Bool.true_and, if_true] at hz
              subst hz
              go_wp2
              go_ret
              exact ⟨rfl, below_drew hbz⟩
        · have hz := HZ.out
          rw [if_neg (by simp)] at hz
          subst hz
          go_wp2
          go_ret
          exact ⟨rfl, hbz⟩

set_option maxRecDepth 100000 in
set_option maxHeartbeats 4000000 in
theorem rcheck_any (x : Cf) (A : Option Addr) (n c B : Nat) (z : Int) (w : World) (hr : Rd w B 2 A n (stCells x.ss)) (hl : x.ss.length = n) (hn : n ≤ maxLen) (hz : checkZ x = z) :
    Calls Try.prog 16 #[cfV A n c x] w fun e w' => e = .returned (.int .i64 z) ∧ Below w.heap.size w w' := by
  have hr := hr.fits (by decide)
  obtain ⟨ss, fi, la, re, ti, de, w0f, w0c, w1f, w1c, w2f, w2c, w3f, w3c, ev, st⟩ := x
  simp only at hr hl
  obtain ⟨r, hrr⟩ : ∃ r, listB ss = r := ⟨_, rfl⟩
  have HLs := Lib.hid (fun (W : World) (h : Below w.heap.size w W) => rlist_any ss A n c _ r W (hr.below h (Nat.le_refl _)) hl hn hrr)
  obtain ⟨a0, ha0⟩ : ∃ r, decide (fi < 1) = r := ⟨_, rfl⟩
  obtain ⟨a1, ha1⟩ : ∃ r, decide (la < fi) = r := ⟨_, rfl⟩
  obtain ⟨a2, ha2⟩ : ∃ r, decide (247 < la) = r := ⟨_, rfl⟩
  obtain ⟨r0, hr0⟩ : ∃ r, inB re 0 5 = r := ⟨_, rfl⟩
  have HR0 := Lib.hid (fun w => rin_any re 0 5 r0 hr0 w)
  obtain ⟨r1, hr1⟩ : ∃ r, inB ti 1 5000000 = r := ⟨_, rfl⟩
  have HR1 := Lib.hid (fun w => rin_any ti 1 5000000 r1 hr1 w)
  obtain ⟨r2, hr2⟩ : ∃ r, inB de 0 5000000 = r := ⟨_, rfl⟩
  have HR2 := Lib.hid (fun w => rin_any de 0 5000000 r2 hr2 w)
  obtain ⟨r3, hr3⟩ : ∃ r, inB ev 1 64 = r := ⟨_, rfl⟩
  have HR3 := Lib.hid (fun w => rin_any ev 1 64 r3 hr3 w)
  obtain ⟨r4, hr4⟩ : ∃ r, inB st 0 1000000 = r := ⟨_, rfl⟩
  have HR4 := Lib.hid (fun w => rin_any st 0 1000000 r4 hr4 w)
  obtain ⟨zw, hzw⟩ : ∃ z, wndZ ⟨ss, fi, la, re, ti, de, w0f, w0c, w1f, w1c, w2f, w2c, w3f, w3c, ev, st⟩ = z := ⟨_, rfl⟩
  have HW := Lib.hid (fun w => windows_any w0f w0c w1f w1c w2f w2c w3f w3c zw w hzw)
  have hfi : inB fi 1 la = (!a0 && !a1) := by
    rw [← ha0, ← ha1, inB]
    by_cases h1 : fi < 1
    · simp [h1] <;> omega
    · by_cases h2 : la < fi
      · simp [h1, h2] <;> omega
      · simp [h1, h2] <;> omega
  have hz2 : (if r = false then 5 else if (!a0 && !a1 && !a2 && r0 && r1 && r2 && r3 && r4) = false then 3 else zw) = z := by
    rw [← hz]; simp only [checkZ, rangeB, hzw, hrr, hfi, ha2, hr0, hr1, hr2, hr3, hr4]
  have HA0 := Lib.hid ha0
  have HA1 := Lib.hid ha1
  have HA2 := Lib.hid ha2
  have HZ := Lib.hid hz2
  clear hr hl hrr hr0 hr1 hr2 hr3 hr4 ha0 ha1 ha2 hfi hzw hz hz2
  go_enter Try.func16, Try.ntmps16
  go_wp2_with fail
  have HB := Lib.hid (Box.alloc_ (w := w) (cs := #[.slice A n c, .int .i64 fi, .int .i64 la, .int .i64 re, .int .i64 ti, .int .i64 de, .int .i64 w0f, .int .i64 w0c, .int .i64 w1f, .int .i64 w1c, .int .i64 w2f, .int .i64 w2c, .int .i64 w3f, .int .i64 w3c, .int .i64 ev, .int .i64 st]) (e := 33))
  have hb0 : Below w.heap.size w (w.alloc (.cells #[.slice A n c, .int .i64 fi, .int .i64 la, .int .i64 re, .int .i64 ti, .int .i64 de, .int .i64 w0f, .int .i64 w0c, .int .i64 w1f, .int .i64 w1c, .int .i64 w2f, .int .i64 w2c, .int .i64 w3f, .int .i64 w3c, .int .i64 ev, .int .i64 st] 33)) := (Below.refl _ _).alloc (Nat.le_refl _) _
  refine (HLs.out _ hb0).mono ?_
  rintro e w1 ⟨rfl, hb1⟩
  have HB1 := Lib.hid (HB.out.below hb1)
  have hbw := hb0.trans (hb1.mono hb0.size)
  clear hb0 hb1 HB
  cases r
  · have hz := HZ.out
    rw [if_pos rfl] at hz
    subst hz
    go_wp2
    go_ret
    exact ⟨rfl, hbw⟩
  · have hz := HZ.out
    rw [if_neg (by simp)] at hz
    have HZ := Lib.hid hz
    clear hz
    obtain ⟨q1, z1, l1⟩ := HB1.out
    go_upto_region 3 with fail
    obtain ⟨g, hg⟩ : ∃ g, (!a0 && !a1 && !a2 && r0 && r1 && r2 && r3 && r4) = g := ⟨_, rfl⟩
    go_cut [51] (fun v x => v = .bool (!g) ∧ x = w1)
    case first =>
      clear HZ HB1 z1 l1 hbw
      cases a0
      · cases a1
        · cases a2
          · cases r0
            · obtain rfl : g = false := by rw [← hg]; simp
              have d0 : decide (fi < 1) = false := HA0.out
              have d1 : decide (la < fi) = false := HA1.out
              have d2 : decide (247 < la) = false := HA2.out
              go_wp2_with fail
              refine (HR0.out _).mono ?_
              rintro e wx ⟨rfl, rfl⟩
              go_wp2_with fail
              go_meet
              case rel => exact ⟨rfl, rfl⟩
            · cases r1
              · obtain rfl : g = false := by rw [← hg]; simp
                have d0 : decide (fi < 1) = false := HA0.out
                have d1 : decide (la < fi) = false := HA1.out
                have d2 : decide (247 < la) = false := HA2.out
                go_wp2_with fail
                refine (HR0.out _).mono ?_
                rintro e wx ⟨rfl, rfl⟩
                go_wp2_with fail
                refine (HR1.out _).mono ?_
                rintro e wx ⟨rfl, rfl⟩
                go_wp2_with fail
                go_meet
                case rel => exact ⟨rfl, rfl⟩
              · cases r2
                · obtain rfl : g = false := by rw [← hg]; simp
                  have d0 : decide (fi < 1) = false := HA0.out
                  have d1 : decide (la < fi) = false := HA1.out
                  have d2 : decide (247 < la) = false := HA2.out
                  go_wp2_with fail
                  refine (HR0.out _).mono ?_
                  rintro e wx ⟨rfl, rfl⟩
                  go_wp2_with fail
                  refine (HR1.out _).mono ?_
                  rintro e wx ⟨rfl, rfl⟩
                  go_wp2_with fail
                  refine (HR2.out _).mono ?_
                  rintro e wx ⟨rfl, rfl⟩
                  go_wp2_with fail
                  go_meet
                  case rel => exact ⟨rfl, rfl⟩
                · cases r3
                  · obtain rfl : g = false := by rw [← hg]; simp
                    have d0 : decide (fi < 1) = false := HA0.out
                    have d1 : decide (la < fi) = false := HA1.out
                    have d2 : decide (247 < la) = false := HA2.out
                    go_wp2_with fail
                    refine (HR0.out _).mono ?_
                    rintro e wx ⟨rfl, rfl⟩
                    go_wp2_with fail
                    refine (HR1.out _).mono ?_
                    rintro e wx ⟨rfl, rfl⟩
                    go_wp2_with fail
                    refine (HR2.out _).mono ?_
                    rintro e wx ⟨rfl, rfl⟩
                    go_wp2_with fail
                    refine (HR3.out _).mono ?_
                    rintro e wx ⟨rfl, rfl⟩
                    go_wp2_with fail
                    go_meet
                    case rel => exact ⟨rfl, rfl⟩
                  · cases r4
                    · obtain rfl : g = false := by rw [← hg]; simp
                      have d0 : decide (fi < 1) = false := HA0.out
                      have d1 : decide (la < fi) = false := HA1.out
                      have d2 : decide (247 < la) = false := HA2.out
                      go_wp2_with fail
                      refine (HR0.out _).mono ?_
                      rintro e wx ⟨rfl, rfl⟩
                      go_wp2_with fail
                      refine (HR1.out _).mono ?_
                      rintro e wx ⟨rfl, rfl⟩
                      go_wp2_with fail
                      refine (HR2.out _).mono ?_
                      rintro e wx ⟨rfl, rfl⟩
                      go_wp2_with fail
                      refine (HR3.out _).mono ?_
                      rintro e wx ⟨rfl, rfl⟩
                      go_wp2_with fail
                      refine (HR4.out _).mono ?_
                      rintro e wx ⟨rfl, rfl⟩
                      go_wp2_with fail
                      go_meet
                      case rel => exact ⟨rfl, rfl⟩
                    · obtain rfl : g = true := by rw [← hg]; rfl
                      have d0 : decide (fi < 1) = false := HA0.out
                      have d1 : decide (la < fi) = false := HA1.out
                      have d2 : decide (247 < la) = false := HA2.out
                      go_wp2_with fail
                      refine (HR0.out _).mono ?_
                      rintro e wx ⟨rfl, rfl⟩
                      go_wp2_with fail
                      refine (HR1.out _).mono ?_
                      rintro e wx ⟨rfl, rfl⟩
                      go_wp2_with fail
                      refine (HR2.out _).mono ?_
                      rintro e wx ⟨rfl, rfl⟩
                      go_wp2_with fail
                      refine (HR3.out _).mono ?_
                      rintro e wx ⟨rfl, rfl⟩
                      go_wp2_with fail
                      refine (HR4.out _).mono ?_
                      rintro e wx ⟨rfl, rfl⟩
                      go_wp2_with fail
                      go_meet
                      case rel => exact ⟨rfl, rfl⟩
          · obtain rfl : g = false := by rw [← hg]; simp
            have d0 : decide (fi < 1) = false := HA0.out
            have d1 : decide (la < fi) = false := HA1.out
            have d2 : decide (247 < la) = true := HA2.out
            go_wp2_with fail
            go_meet
            case rel => exact ⟨rfl, rfl⟩
        · obtain rfl : g = false := by rw [← hg]; simp
          have d0 : decide (fi < 1) = false := HA0.out
          have d1 : decide (la < fi) = true := HA1.out
          go_wp2_with fail
          go_meet
          case rel => exact ⟨rfl, rfl⟩
      · obtain rfl : g = false := by rw [← hg]; simp
        have d0 : decide (fi < 1) = true := HA0.out
        go_wp2_with fail
        go_meet
        case rel => exact ⟨rfl, rfl⟩
    case rest =>
      obtain ⟨rfl, rfl⟩ := hcut
      rw [hg] at HZ
      clear hg HR0 HR1 HR2 HR3 HR4 HA0 HA1 HA2
      cases g
      · have hz := HZ.out
        rw [if_pos rfl] at hz
        subst hz
        go_wp2
        go_ret
        exact ⟨rfl, hbw⟩
      · have hz := HZ.out
        rw [if_neg (by simp)] at hz
        subst hz
        go_wp2_with fail
        refine (HW.out _).mono ?_
        rintro e w5 ⟨rfl, hb5⟩
        go_wp2
        go_ret
        exact ⟨rfl, ext_trans hbw hb5⟩
end Go.Proofs.Ytjpljjhnjholdaa

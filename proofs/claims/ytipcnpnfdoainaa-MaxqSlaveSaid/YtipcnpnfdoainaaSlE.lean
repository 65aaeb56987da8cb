/- The reference Slave: the walk where the head and the tables are good and no object is looked at. -/
import Derived.Test.YtipcnpnfdoainaaSlD
set_option linter.unusedVariables false
set_option linter.unusedSimpArgs false
namespace Go.Proofs.Ytipcnpnfdoainaa
open Go.RowKit

set_option maxRecDepth 100000 in
set_option maxHeartbeats 16000000 in
theorem slave_good1 (S : Sl) (w : World) (hok : S.ok w w.heap.size) (hs1 : ∀ k, k < 4 → (S.tb k).n ≤ 40) (hs2 : S.on_ ≤ 40) (hs3 : S.sn ≤ 80) (r : Bool) (hr : slB S = r) (hhead : headB S = true) (htbs : ∀ j, j < 4 → tbOk j (S.tb j) = true) (hcase : midB S = false ∨ S.lv = 0) :
    Calls Try.prog 19 #[slV S] w fun e w' => e = .returned (.bool r) ∧ Below w.heap.size w w' := by
  obtain ⟨v, hv⟩ : ∃ v, validB S.b S.p = v := ⟨_, rfl⟩
  have HV := Lib.hid (fun W => refValid_any S.b S.p v hv W)
  have HVV := Lib.hid hv
  have HR := Lib.hid hr
  have HHEAD := Lib.hid hhead
  have HTBS := Lib.hid htbs
  have HCASE := Lib.hid hcase
  have HOK := Lib.hid hok
  have HS1 := Lib.hid hs1
  have hbx := Box.alloc_ (w := w) (cs := slCells S) (e := 54)
  have hb0 : Below w.heap.size w (w.alloc (.cells (slCells S) 54)) := (Below.refl _ _).alloc (Nat.le_refl _) _
  obtain ⟨g, hg⟩ : ∃ g, w.heap.size = g := ⟨_, rfl⟩
  obtain ⟨W1, hW1⟩ : ∃ W, w.alloc (.cells (slCells S) 54) = W := ⟨_, rfl⟩
  rw [hW1] at hb0
  rw [hW1, hg] at hbx
  have HB0 := Lib.hid hb0
  have HBX := Lib.hid hbx
  have HW1 := Lib.hid hW1
  have HG := Lib.hid hg
  clear hv hr hhead htbs hcase hok hs1 hbx hb0 hW1 hg
  go_enter Try.func19, Try.ntmps19
  go_upto_region 1 with fail
  try rw [HW1.out]
  try rw [HG.out]
  obtain ⟨q, z, lx⟩ := HBX.out
  unfold slCells at q
  go_wp2_with fail
  refine (HV.out _).mono ?_
  rintro e w1 ⟨rfl, hb1⟩
  have HB1 := Lib.hid (ext_trans HB0.out hb1)
  have HBX1 := Lib.hid (HBX.out.below hb1)
  clear hb1 q z lx HBX HB0
  obtain ⟨q, z, lx⟩ := HBX1.out
  unfold slCells at q
  · obtain rfl : v = true := by
      have h := HHEAD.out
      rw [headB, HVV.out, Bool.and_eq_true] at h
      exact h.1
    have hhd := HHEAD.out
    rw [headB, HVV.out, Bool.true_and, decide_eq_true_eq] at hhd
    have d1 : decide (S.u < 1) = false := by simp; omega
    have d2 : decide (247 < S.u) = false := by simp; omega
    have d3 : decide (S.lv < 0) = false := by simp; omega
    have d4 : decide (3 < S.lv) = false := by simp; omega
    have HHD := Lib.hid (show headB S = true from HHEAD.out)
    have HLV := Lib.hid (show 0 ≤ S.lv ∧ S.lv ≤ 3 by omega)
    clear hhd
    go_wp2_with fail
    clear d1 d2 d3 d4 q z lx
    go_loopw [3, 4] (fun iv u4 x => ∃ k : Nat, k ≤ 4 ∧ iv = .int .i64 k ∧ (∀ j, j < k → tbOk j (S.tb j) = true) ∧ Box x g (slCells S) ∧ Below w.heap.size w x) (fun iv _ _ => 4 - (intOf iv).toNat)
    case atStart => exact ⟨0, by omega, rfl, (fun j hj => by omega), HBX1.out, HB1.out⟩
    case round =>
      obtain ⟨k, hk, rfl, hall, hbx, hbw⟩ := hrel
      have HALL := Lib.hid hall
      have HB2 := Lib.hid hbx
      have HW2 := Lib.hid hbw
      clear hall hbx hbw
      by_cases hlt : k < 4
      · have HLT := Lib.hid hlt
        have hn40 := HS1.out k hlt
        have hrk := HOK.out.1 k hlt
        obtain ⟨t0, t1, t2⟩ := sl_tb HB2.out k hlt
        have hgl := HB2.out.2.2
        have hfz := HB2.out.2.1
        obtain ⟨T, hT⟩ : ∃ T, S.tb k = T := ⟨_, rfl⟩
        rw [hT] at t0 t1 t2 hn40 hrk
        obtain ⟨sup, At, n, c, rs, most⟩ := T
        dsimp only at t0 t1 t2 hn40 hrk
        have hfin : tbOk k ⟨sup, At, n, c, rs, most⟩ = false → r = false := fun hn => by
          rw [← HR.out]; exact slB_false (fun h => by have h1 := h.2.1 k hlt; rw [hT, hn] at h1; cases h1)
        have HFIN := Lib.hid hfin
        have hok : tbOk k ⟨sup, At, n, c, rs, most⟩ = true → ∀ j, j < k + 1 → tbOk j (S.tb j) = true := fun hn j hj => by
          rcases Nat.lt_or_ge j k with h | h
          · exact HALL.out j h
          · rw [show j = k by omega, hT]; exact hn
        have HNX := Lib.hid hok
        have HTKE := Lib.hid hT
        have HRK := Lib.hid hrk
        clear hfin hok hT hrk
        go_upto_region 7 with fail
        have kw : IntKind.i64.wrap ((k : Int) + 1) = (k : Int) + 1 := IntWalk.i64_in _ ⟨by omega, by omega⟩
        have HBT := Lib.hid (Box.alloc_ (w := wr) (cs := #[.bool sup, .slice At n c, .int .i64 most]) (e := 51))
        have HB3 := Lib.hid (HB2.out.alloc' (.cells #[.bool sup, .slice At n c, .int .i64 most] 51))
        have HBA := Lib.hid (ext_alloc HW2.out (.cells #[.bool sup, .slice At n c, .int .i64 most] 51))
        have HTF := Lib.hid (fun (W : World) (h : Box W wr.heap.size #[.bool sup, .slice At n c, .int .i64 most]) => show (W.cell? ⟨wr.heap.size, 0, none⟩ = some (.bool sup) ∧ W.cell? ⟨wr.heap.size, 1, none⟩ = some (.slice At n c) ∧ W.cell? ⟨wr.heap.size, 2, none⟩ = some (.int .i64 most)) from ⟨h.1 0, h.1 1, h.1 2⟩)
        obtain ⟨qt, zt, lt⟩ := HBT.out
        clear t0 t1 t2 hfz hgl
        have htk := HTBS.out k hlt
        rw [HTKE.out] at htk
        cases sup
        · have hn0 : n = 0 ∧ most = 0 := by simpa [tbOk] using htk
          obtain ⟨hn0, hm0⟩ := hn0
          subst hn0
          subst hm0
          have HN2 := Lib.hid (HNX.out htk)
          clear htk
          go_upto_region 9 with fail
          have HBR := Lib.hid (below_drew HBA.out)
          have HTD := Lib.hid HBT.out.drew
          have HBD := Lib.hid HB3.out.drew
          have hS0 := HTF.out _ HTD.out
          refine rgs_start (fun w' => w'.cell? ⟨wr.heap.size, 0, none⟩ = some (.bool false) ∧ w'.cell? ⟨wr.heap.size, 1, none⟩ = some (.slice At 0 c) ∧ w'.cell? ⟨wr.heap.size, 2, none⟩ = some (.int .i64 0)) (by kernel_rfl) ?_
          refine rgs_t (v := ?_) (some 53) 0 (by kernel_rfl) rfl rfl (by assumption) (.inl ⟨by rfl, fun w' hw => ?_⟩) ?_
          rotate_left
          · obtain ⟨q1, q2, q3⟩ := hw; go_simp <;> with_reducible rfl
          try simp only [Act.put, List.setIfInBounds_toArray, List.set_cons_zero, List.set_cons_succ]
          refine rgs_t (v := ?_) (some 54) 1 (by kernel_rfl) rfl rfl (by assumption) (.inl ⟨by rfl, fun w' hw => ?_⟩) ?_
          rotate_left
          · obtain ⟨q1, q2, q3⟩ := hw; go_simp <;> with_reducible rfl
          try simp only [Act.put, List.setIfInBounds_toArray, List.set_cons_zero, List.set_cons_succ]
          refine rgs_t (v := ?_) (some 55) 2 (by kernel_rfl) rfl rfl (by assumption) (.inl ⟨by rfl, fun w' hw => ?_⟩) ?_
          rotate_left
          · obtain ⟨q1, q2, q3⟩ := hw; go_simp <;> with_reducible rfl
          try simp only [Act.put, List.setIfInBounds_toArray, List.set_cons_zero, List.set_cons_succ]
          refine rgs_t (some 56) 3 (by kernel_rfl) rfl rfl (by assumption) (.inr ⟨by rfl, rfl⟩) ?_
          try simp only [Act.put, List.setIfInBounds_toArray, List.set_cons_zero, List.set_cons_succ]
          refine rgs_t (some 57) 4 (by kernel_rfl) rfl rfl (by assumption) (.inr ⟨by rfl, rfl⟩) ?_
          try simp only [Act.put, List.setIfInBounds_toArray, List.set_cons_zero, List.set_cons_succ]
          refine rgs_t (some 58) 5 (by kernel_rfl) rfl rfl (by assumption) (.inr ⟨by rfl, rfl⟩) ?_
          try simp only [Act.put, List.setIfInBounds_toArray, List.set_cons_zero, List.set_cons_succ]
          refine rgs_t (some 59) 6 (by kernel_rfl) rfl rfl (by assumption) (.inr ⟨by rfl, rfl⟩) ?_
          try simp only [Act.put, List.setIfInBounds_toArray, List.set_cons_zero, List.set_cons_succ]
          refine rgs_t (some 60) 7 (by kernel_rfl) rfl rfl (by assumption) (.inr ⟨by rfl, rfl⟩) ?_
          try simp only [Act.put, List.setIfInBounds_toArray, List.set_cons_zero, List.set_cons_succ]
          refine rgs_t (some 61) 8 (by kernel_rfl) rfl rfl (by assumption) (.inr ⟨by rfl, rfl⟩) ?_
          try simp only [Act.put, List.setIfInBounds_toArray, List.set_cons_zero, List.set_cons_succ]
          refine rgs_t (some 62) 9 (by kernel_rfl) rfl rfl (by assumption) (.inr ⟨by rfl, rfl⟩) ?_
          try simp only [Act.put, List.setIfInBounds_toArray, List.set_cons_zero, List.set_cons_succ]
          refine rgs_t (some 63) 10 (by kernel_rfl) rfl rfl (by assumption) (.inr ⟨by rfl, rfl⟩) ?_
          try simp only [Act.put, List.setIfInBounds_toArray, List.set_cons_zero, List.set_cons_succ]
          refine rgs_t (some 64) 11 (by kernel_rfl) rfl rfl (by assumption) (.inr ⟨by rfl, rfl⟩) ?_
          try simp only [Act.put, List.setIfInBounds_toArray, List.set_cons_zero, List.set_cons_succ]
          refine rgs_t (some 65) 12 (by kernel_rfl) rfl rfl (by assumption) (.inr ⟨by rfl, rfl⟩) ?_
          try simp only [Act.put, List.setIfInBounds_toArray, List.set_cons_zero, List.set_cons_succ]
          refine rgs_t (some 66) 13 (by kernel_rfl) rfl rfl (by assumption) (.inr ⟨by rfl, rfl⟩) ?_
          try simp only [Act.put, List.setIfInBounds_toArray, List.set_cons_zero, List.set_cons_succ]
          refine rgs_t (some 67) 14 (by kernel_rfl) rfl rfl (by assumption) (.inr ⟨by rfl, rfl⟩) ?_
          try simp only [Act.put, List.setIfInBounds_toArray, List.set_cons_zero, List.set_cons_succ]
          refine rgs_t (some 68) 15 (by kernel_rfl) rfl rfl (by assumption) (.inr ⟨by rfl, rfl⟩) ?_
          try simp only [Act.put, List.setIfInBounds_toArray, List.set_cons_zero, List.set_cons_succ]
          refine rgs_t (some 69) 16 (by kernel_rfl) rfl rfl (by assumption) (.inr ⟨by rfl, rfl⟩) ?_
          try simp only [Act.put, List.setIfInBounds_toArray, List.set_cons_zero, List.set_cons_succ]
          refine rgs_t (some 70) 17 (by kernel_rfl) rfl rfl (by assumption) (.inr ⟨by rfl, rfl⟩) ?_
          try simp only [Act.put, List.setIfInBounds_toArray, List.set_cons_zero, List.set_cons_succ]
          refine rgs_t (some 71) 18 (by kernel_rfl) rfl rfl (by assumption) (.inr ⟨by rfl, rfl⟩) ?_
          try simp only [Act.put, List.setIfInBounds_toArray, List.set_cons_zero, List.set_cons_succ]
          refine rgs_t (some 72) 19 (by kernel_rfl) rfl rfl (by assumption) (.inr ⟨by rfl, rfl⟩) ?_
          try simp only [Act.put, List.setIfInBounds_toArray, List.set_cons_zero, List.set_cons_succ]
          refine rgs_t (some 73) 20 (by kernel_rfl) rfl rfl (by assumption) (.inr ⟨by rfl, rfl⟩) ?_
          try simp only [Act.put, List.setIfInBounds_toArray, List.set_cons_zero, List.set_cons_succ]
          refine rgs_t (some 74) 21 (by kernel_rfl) rfl rfl (by assumption) (.inr ⟨by rfl, rfl⟩) ?_
          try simp only [Act.put, List.setIfInBounds_toArray, List.set_cons_zero, List.set_cons_succ]
          refine rgs_t (some 75) 22 (by kernel_rfl) rfl rfl (by assumption) (.inr ⟨by rfl, rfl⟩) ?_
          try simp only [Act.put, List.setIfInBounds_toArray, List.set_cons_zero, List.set_cons_succ]
          refine rgs_t (some 76) 23 (by kernel_rfl) rfl rfl (by assumption) (.inr ⟨by rfl, rfl⟩) ?_
          try simp only [Act.put, List.setIfInBounds_toArray, List.set_cons_zero, List.set_cons_succ]
          refine rgs_t (some 77) 24 (by kernel_rfl) rfl rfl (by assumption) (.inr ⟨by rfl, rfl⟩) ?_
          try simp only [Act.put, List.setIfInBounds_toArray, List.set_cons_zero, List.set_cons_succ]
          refine rgs_t (some 78) 25 (by kernel_rfl) rfl rfl (by assumption) (.inr ⟨by rfl, rfl⟩) ?_
          try simp only [Act.put, List.setIfInBounds_toArray, List.set_cons_zero, List.set_cons_succ]
          refine rgs_t (v := ?_) (some 79) 26 (by kernel_rfl) rfl rfl (by assumption) (.inl ⟨by rfl, fun w' hw => ?_⟩) ?_
          rotate_left
          · obtain ⟨q1, q2, q3⟩ := hw; go_simp <;> with_reducible rfl
          try simp only [Act.put, List.setIfInBounds_toArray, List.set_cons_zero, List.set_cons_succ]
          refine rgs_d (by kernel_rfl) ?_
          go_wp2_with fail
          go_roundw
          case rel => exact ⟨k + 1, by have := HLT.out; omega, by go_num, HN2.out, HBD.out, HBR.out⟩
          case measure => simp [intOf]; have := HLT.out; omega
        · have htk2 : ((n ≤ 32 ∧ validL rs = true) ∧ 1 ≤ most) ∧ most ≤ slimZ ((k : Int) + 1) := by simpa [tbOk] using htk
          obtain ⟨⟨⟨h1, hvl⟩, h2⟩, h3⟩ := htk2
          have d1 : decide (32 < (n : Int)) = false := by simp; omega
          have d1n : decide (32 < n) = false := by simp; omega
          have HVL := Lib.hid (fun (W : World) (h : Rd W w.heap.size 2 At n (rgCells rs)) => rgvalid_any rs At n c w.heap.size W h (by omega) true hvl)
          have d2 : decide (most < 1) = false := by simp; omega
          obtain ⟨lm, hlm⟩ : ∃ z, slimZ ((k : Int) + 1) = z := ⟨_, rfl⟩
          rw [hlm] at h3
          have d3 : decide (lm < most) = false := by simp; omega
          have HN2 := Lib.hid (HNX.out htk)
          have HLM := Lib.hid (fun W => hlm ▸ srlim_any ((k : Int) + 1) W)
          clear h1 h2 h3 hvl hlm htk
          go_upto_region 9 with fail
          have HBR := Lib.hid (below_drew HBA.out)
          have HTD := Lib.hid HBT.out.drew
          have HBD := Lib.hid HB3.out.drew
          have hS0 := HTF.out _ HTD.out
          refine rgs_start (fun w' => w'.cell? ⟨wr.heap.size, 0, none⟩ = some (.bool true) ∧ w'.cell? ⟨wr.heap.size, 1, none⟩ = some (.slice At n c) ∧ w'.cell? ⟨wr.heap.size, 2, none⟩ = some (.int .i64 most)) (by kernel_rfl) ?_
          refine rgs_t (v := ?_) (some 53) 0 (by kernel_rfl) rfl rfl (by assumption) (.inl ⟨by rfl, fun w' hw => ?_⟩) ?_
          rotate_left
          · obtain ⟨q1, q2, q3⟩ := hw; go_simp <;> with_reducible rfl
          try simp only [Act.put, List.setIfInBounds_toArray, List.set_cons_zero, List.set_cons_succ]
          refine rgs_t (v := ?_) (some 54) 1 (by kernel_rfl) rfl rfl (by assumption) (.inl ⟨by rfl, fun w' hw => ?_⟩) ?_
          rotate_left
          · obtain ⟨q1, q2, q3⟩ := hw; go_simp <;> with_reducible rfl
          try simp only [Act.put, List.setIfInBounds_toArray, List.set_cons_zero, List.set_cons_succ]
          refine rgs_t (v := ?_) (some 55) 2 (by kernel_rfl) rfl rfl (by assumption) (.inl ⟨by rfl, fun w' hw => ?_⟩) ?_
          rotate_left
          · obtain ⟨q1, q2, q3⟩ := hw; go_simp <;> with_reducible rfl
          try simp only [Act.put, List.setIfInBounds_toArray, List.set_cons_zero, List.set_cons_succ]
          refine rgs_t (v := ?_) (some 56) 3 (by kernel_rfl) rfl rfl (by assumption) (.inl ⟨by rfl, fun w' hw => ?_⟩) ?_
          rotate_left
          · obtain ⟨q1, q2, q3⟩ := hw; go_simp <;> with_reducible rfl
          try simp only [Act.put, List.setIfInBounds_toArray, List.set_cons_zero, List.set_cons_succ]
          refine rgs_t (v := ?_) (some 57) 4 (by kernel_rfl) rfl rfl (by assumption) (.inl ⟨by rfl, fun w' hw => ?_⟩) ?_
          rotate_left
          · obtain ⟨q1, q2, q3⟩ := hw; go_simp <;> with_reducible rfl
          try simp only [Act.put, List.setIfInBounds_toArray, List.set_cons_zero, List.set_cons_succ]
          refine rgs_t (v := ?_) (some 58) 5 (by kernel_rfl) rfl rfl (by assumption) (.inl ⟨by rfl, fun w' hw => ?_⟩) ?_
          rotate_left
          · obtain ⟨q1, q2, q3⟩ := hw; go_simp <;> with_reducible rfl
          try simp only [Act.put, List.setIfInBounds_toArray, List.set_cons_zero, List.set_cons_succ]
          refine rgs_t (v := ?_) (some 59) 6 (by kernel_rfl) rfl rfl (by assumption) (.inl ⟨by rfl, fun w' hw => ?_⟩) ?_
          rotate_left
          · obtain ⟨q1, q2, q3⟩ := hw; go_simp <;> with_reducible rfl
          try simp only [Act.put, List.setIfInBounds_toArray, List.set_cons_zero, List.set_cons_succ]
          refine rgs_t (v := ?_) (some 60) 7 (by kernel_rfl) rfl rfl (by assumption) (.inl ⟨by rfl, fun w' hw => ?_⟩) ?_
          rotate_left
          · obtain ⟨q1, q2, q3⟩ := hw; go_simp <;> with_reducible rfl
          try simp only [Act.put, List.setIfInBounds_toArray, List.set_cons_zero, List.set_cons_succ]
          refine rgs_t (v := ?_) (some 61) 8 (by kernel_rfl) rfl rfl (by assumption) (.inl ⟨by rfl, fun w' hw => ?_⟩) ?_
          rotate_left
          · obtain ⟨q1, q2, q3⟩ := hw; go_simp <;> with_reducible rfl
          try simp only [Act.put, List.setIfInBounds_toArray, List.set_cons_zero, List.set_cons_succ]
          refine rgs_t (v := ?_) (some 62) 9 (by kernel_rfl) rfl rfl (by assumption) (.inl ⟨by rfl, fun w' hw => ?_⟩) ?_
          rotate_left
          · obtain ⟨q1, q2, q3⟩ := hw; go_simp <;> with_reducible rfl
          try simp only [Act.put, List.setIfInBounds_toArray, List.set_cons_zero, List.set_cons_succ]
          refine rgs_c 10 (by kernel_rfl) rfl (by rfl) (fun K hK => ?_)
          go_simp
          refine (HVL.out _ (HRK.out.below HBR.out (Nat.le_refl _))).mono ?_
          rintro e x5 ⟨rfl, hb5⟩
          have HBR := Lib.hid (ext_trans HBR.out hb5)
          have HTD := Lib.hid (HTD.out.below hb5)
          have HBD := Lib.hid (HBD.out.below hb5)
          have hS5 := HTF.out _ HTD.out
          refine hK _ _ hS5 ?_
          clear hb5 hS0
          clear hK K
          try simp only [Act.put, List.setIfInBounds_toArray, List.set_cons_zero, List.set_cons_succ]
          refine rgs_t (v := ?_) (some 64) 11 (by kernel_rfl) rfl rfl (by assumption) (.inl ⟨by rfl, fun w' hw => ?_⟩) ?_
          rotate_left
          · obtain ⟨q1, q2, q3⟩ := hw; go_simp <;> with_reducible rfl
          try simp only [Act.put, List.setIfInBounds_toArray, List.set_cons_zero, List.set_cons_succ]
          refine rgs_t (v := ?_) (some 65) 12 (by kernel_rfl) rfl rfl (by assumption) (.inl ⟨by rfl, fun w' hw => ?_⟩) ?_
          rotate_left
          · obtain ⟨q1, q2, q3⟩ := hw; go_simp <;> with_reducible rfl
          try simp only [Act.put, List.setIfInBounds_toArray, List.set_cons_zero, List.set_cons_succ]
          refine rgs_t (v := ?_) (some 66) 13 (by kernel_rfl) rfl rfl (by assumption) (.inl ⟨by rfl, fun w' hw => ?_⟩) ?_
          rotate_left
          · obtain ⟨q1, q2, q3⟩ := hw; go_simp <;> with_reducible rfl
          try simp only [Act.put, List.setIfInBounds_toArray, List.set_cons_zero, List.set_cons_succ]
          refine rgs_t (v := ?_) (some 67) 14 (by kernel_rfl) rfl rfl (by assumption) (.inl ⟨by rfl, fun w' hw => ?_⟩) ?_
          rotate_left
          · obtain ⟨q1, q2, q3⟩ := hw; go_simp <;> with_reducible rfl
          try simp only [Act.put, List.setIfInBounds_toArray, List.set_cons_zero, List.set_cons_succ]
          refine rgs_t (v := ?_) (some 68) 15 (by kernel_rfl) rfl rfl (by assumption) (.inl ⟨by rfl, fun w' hw => ?_⟩) ?_
          rotate_left
          · obtain ⟨q1, q2, q3⟩ := hw; go_simp <;> with_reducible rfl
          try simp only [Act.put, List.setIfInBounds_toArray, List.set_cons_zero, List.set_cons_succ]
          refine rgs_t (v := ?_) (some 69) 16 (by kernel_rfl) rfl rfl (by assumption) (.inl ⟨by rfl, fun w' hw => ?_⟩) ?_
          rotate_left
          · obtain ⟨q1, q2, q3⟩ := hw; go_simp <;> with_reducible rfl
          try simp only [Act.put, List.setIfInBounds_toArray, List.set_cons_zero, List.set_cons_succ]
          refine rgs_t (v := ?_) (some 70) 17 (by kernel_rfl) rfl rfl (by assumption) (.inl ⟨by rfl, fun w' hw => ?_⟩) ?_
          rotate_left
          · obtain ⟨q1, q2, q3⟩ := hw; go_simp <;> with_reducible rfl
          try simp only [Act.put, List.setIfInBounds_toArray, List.set_cons_zero, List.set_cons_succ]
          refine rgs_t (v := ?_) (some 71) 18 (by kernel_rfl) rfl rfl (by assumption) (.inl ⟨by rfl, fun w' hw => ?_⟩) ?_
          rotate_left
          · obtain ⟨q1, q2, q3⟩ := hw; go_simp <;> with_reducible rfl
          try simp only [Act.put, List.setIfInBounds_toArray, List.set_cons_zero, List.set_cons_succ]
          refine rgs_t (v := ?_) (some 72) 19 (by kernel_rfl) rfl rfl (by assumption) (.inl ⟨by rfl, fun w' hw => ?_⟩) ?_
          rotate_left
          · obtain ⟨q1, q2, q3⟩ := hw; go_simp <;> with_reducible rfl
          try simp only [Act.put, List.setIfInBounds_toArray, List.set_cons_zero, List.set_cons_succ]
          refine rgs_t (v := ?_) (some 73) 20 (by kernel_rfl) rfl rfl (by assumption) (.inl ⟨by rfl, fun w' hw => ?_⟩) ?_
          rotate_left
          · obtain ⟨q1, q2, q3⟩ := hw; go_simp <;> with_reducible rfl
          try simp only [Act.put, List.setIfInBounds_toArray, List.set_cons_zero, List.set_cons_succ]
          refine rgs_t (v := ?_) (some 74) 21 (by kernel_rfl) rfl rfl (by assumption) (.inl ⟨by rfl, fun w' hw => ?_⟩) ?_
          rotate_left
          · obtain ⟨q1, q2, q3⟩ := hw; go_simp <;> with_reducible rfl
          try simp only [Act.put, List.setIfInBounds_toArray, List.set_cons_zero, List.set_cons_succ]
          refine rgs_t (v := ?_) (some 75) 22 (by kernel_rfl) rfl rfl (by assumption) (.inl ⟨by rfl, fun w' hw => ?_⟩) ?_
          rotate_left
          · obtain ⟨q1, q2, q3⟩ := hw; go_simp <;> with_reducible rfl
          try simp only [Act.put, List.setIfInBounds_toArray, List.set_cons_zero, List.set_cons_succ]
          refine rgs_c 23 (by kernel_rfl) rfl (by rfl) (fun K hK => ?_)
          go_simp
          refine (HLM.out _).mono ?_
          rintro e x6 ⟨rfl, rfl⟩
          refine hK _ _ hS5 ?_
          clear hK K
          try simp only [Act.put, List.setIfInBounds_toArray, List.set_cons_zero, List.set_cons_succ]
          refine rgs_t (v := ?_) (some 77) 24 (by kernel_rfl) rfl rfl (by assumption) (.inl ⟨by rfl, fun w' hw => ?_⟩) ?_
          rotate_left
          · obtain ⟨q1, q2, q3⟩ := hw; go_simp <;> with_reducible rfl
          try simp only [Act.put, List.setIfInBounds_toArray, List.set_cons_zero, List.set_cons_succ]
          refine rgs_t (v := ?_) (some 78) 25 (by kernel_rfl) rfl rfl (by assumption) (.inl ⟨by rfl, fun w' hw => ?_⟩) ?_
          rotate_left
          · obtain ⟨q1, q2, q3⟩ := hw; go_simp <;> with_reducible rfl
          try simp only [Act.put, List.setIfInBounds_toArray, List.set_cons_zero, List.set_cons_succ]
          refine rgs_t (v := ?_) (some 79) 26 (by kernel_rfl) rfl rfl (by assumption) (.inl ⟨by rfl, fun w' hw => ?_⟩) ?_
          rotate_left
          · obtain ⟨q1, q2, q3⟩ := hw; go_simp <;> with_reducible rfl
          try simp only [Act.put, List.setIfInBounds_toArray, List.set_cons_zero, List.set_cons_succ]
          refine rgs_d (by kernel_rfl) ?_
          go_wp2_with fail
          go_roundw
          case rel => exact ⟨k + 1, by have := HLT.out; omega, by go_num, HN2.out, HBD.out, HBR.out⟩
          case measure => simp [intOf]; have := HLT.out; omega
      · obtain rfl : k = 4 := by omega
        have hfin : ¬ (midB S = true ∧ (S.lv = 0 ∨ objB S = true)) → r = false := fun hn => by
          rw [← HR.out]; exact slB_false (fun h => hn ⟨h.2.2.1, h.2.2.2⟩)
        have HFIN := Lib.hid hfin
        have htru : midB S = true → (S.lv = 0 ∨ objB S = true) → r = true := fun h1 h2 => by
          rw [← HR.out]; exact slB_true HHD.out HALL.out h1 h2
        have HTRU := Lib.hid htru
        obtain ⟨lv, hlv⟩ : ∃ z, S.lv = z := ⟨_, rfl⟩
        obtain ⟨on, hon⟩ : ∃ z, S.on_ = z := ⟨_, rfl⟩
        obtain ⟨hs, hhs⟩ : ∃ z, S.hs = z := ⟨_, rfl⟩
        obtain ⟨sn, hsn⟩ : ∃ z, S.sn = z := ⟨_, rfl⟩
        have HCL := Lib.hid (fun (W : World) (h : Box W g (slCells S)) => show (W.cell? ⟨g, 15, none⟩ = some (.int .i64 lv) ∧ W.cell? ⟨g, 16, none⟩ = some (.slice S.oA on S.oc) ∧ W.cell? ⟨g, 17, none⟩ = some (.bool hs) ∧ W.cell? ⟨g, 18, none⟩ = some (.slice S.sA sn S.sc)) from by
          rw [← hlv, ← hon, ← hhs, ← hsn]; exact ⟨h.1 15, h.1 16, h.1 17, h.1 18⟩)
        have hrd := HOK.out.2.1
        rw [hon] at hrd
        have HRO := Lib.hid hrd
        have hmid : midB S = (!(decide (lv = 0) && decide (on ≠ 0)) && (hs == decide (0 < sn)) && decide (sn ≤ 64)) := by rw [← hlv, ← hon, ← hhs, ← hsn]; rfl
        have hlvb := HLV.out
        rw [hlv] at hlvb hfin htru
        rw [hon] at hs2
        rw [hsn] at hs3
        have HFIN := Lib.hid hfin
        have HTRU := Lib.hid htru
        have HMID := Lib.hid hmid
        have HLVB := Lib.hid hlvb
        have HLVE := Lib.hid hlv
        have hob : objB S = (decide (on ≤ 16) && rising S.obs && decide (3 ≤ on) && decide (S.obs[2]?.map Ob.id = some 2) && !(decide (lv = 1) && decide (2 < topId S.obs)) && !(decide (lv = 2) && decide (127 < topId S.obs)) && S.obs.all (fun o => decide (o.n ≤ 64))) := by rw [← hlv, ← hon]; rfl
        have HOB := Lib.hid hob
        have HON := Lib.hid hon
        have HS2 := Lib.hid hs2
        clear hfin htru hmid hlvb hob hon hhs hsn hlv hrd hlt hk hs2 hs3
        obtain ⟨mb, hmb⟩ : ∃ z, midB S = z := ⟨_, rfl⟩
        have HMB := Lib.hid hmb
        rw [hmb] at HMID
        clear hmb
        obtain ⟨c15, c16, c17, c18⟩ := HCL.out _ HB2.out
        have hgl := HB2.out.2.2
        go_upto_region 11 with fail
        go_cut [103] (fun u x => u = .bool (!mb) ∧ Box x g (slCells S) ∧ Below w.heap.size w x)
        case first =>
          have tail : True := trivial
          by_cases hl : lv = 0
          · subst hl
            by_cases ho : on = 0
            · subst ho
              cases hs
              · by_cases hz : sn = 0
                · subst hz
                  have HZ := Lib.hid (show mb = true by rw [HMID.out]; rfl)
                  go_wp2_with fail
                  go_meet
                  case rel => exact ⟨by rw [HZ.out]; rfl, HB2.out, HW2.out⟩
                · have d1 : decide (0 < (sn : Int)) = true := by simp; omega
                  have d1n : decide (0 < sn) = true := by simp; omega
                  have HZ := Lib.hid (show mb = false by rw [HMID.out, d1n]; rfl)
                  clear hz
                  go_wp2_with fail
                  go_meet
                  case rel => exact ⟨by rw [HZ.out]; rfl, HB2.out, HW2.out⟩
              · by_cases hz : sn = 0
                · subst hz
                  have HZ := Lib.hid (show mb = false by rw [HMID.out]; rfl)
                  go_wp2_with fail
                  go_meet
                  case rel => exact ⟨by rw [HZ.out]; rfl, HB2.out, HW2.out⟩
                · have d1 : decide (0 < (sn : Int)) = true := by simp; omega
                  have d1n : decide (0 < sn) = true := by simp; omega
                  clear hz
                  by_cases h6 : 64 < sn
                  · have d2 : decide (64 < (sn : Int)) = true := by simp; omega
                    have d2n : decide (64 < sn) = true := by simp; omega
                    have HZ := Lib.hid (show mb = false by rw [HMID.out, d1n, decide_eq_false (show ¬ sn ≤ 64 by omega)]; rfl)
                    clear h6
                    go_wp2_with fail
                    go_meet
                    case rel => exact ⟨by rw [HZ.out]; rfl, HB2.out, HW2.out⟩
                  · have d2 : decide (64 < (sn : Int)) = false := by simp; omega
                    have d2n : decide (64 < sn) = false := by simp; omega
                    have HZ := Lib.hid (show mb = true by rw [HMID.out, d1n, decide_eq_true (show sn ≤ 64 by omega)]; rfl)
                    clear h6
                    go_wp2_with fail
                    go_meet
                    case rel => exact ⟨by rw [HZ.out]; rfl, HB2.out, HW2.out⟩
            · have d0 : ((on : Int) == 0) = false := by simp; omega
              have d0n : (on == 0) = false := by simpa using ho
              have HZ := Lib.hid (show mb = false by rw [HMID.out, decide_eq_true ho]; rfl)
              go_wp2_with fail
              go_meet
              case rel => exact ⟨by rw [HZ.out]; rfl, HB2.out, HW2.out⟩
          · have d9 : (lv == 0) = false := by simpa using hl
            have hmid := HMID.out
            rw [decide_eq_false hl, Bool.false_and, Bool.not_false, Bool.true_and] at hmid
            have HM2 := Lib.hid hmid
            clear hl hmid
            cases hs
            · by_cases hz : sn = 0
              · subst hz
                have HZ := Lib.hid (show mb = true by rw [HM2.out]; rfl)
                go_wp2_with fail
                go_meet
                case rel => exact ⟨by rw [HZ.out]; rfl, HB2.out, HW2.out⟩
              · have d1 : decide (0 < (sn : Int)) = true := by simp; omega
                have d1n : decide (0 < sn) = true := by simp; omega
                have HZ := Lib.hid (show mb = false by rw [HM2.out, d1n]; rfl)
                clear hz
                go_wp2_with fail
                go_meet
                case rel => exact ⟨by rw [HZ.out]; rfl, HB2.out, HW2.out⟩
            · by_cases hz : sn = 0
              · subst hz
                have HZ := Lib.hid (show mb = false by rw [HM2.out]; rfl)
                go_wp2_with fail
                go_meet
                case rel => exact ⟨by rw [HZ.out]; rfl, HB2.out, HW2.out⟩
              · have d1 : decide (0 < (sn : Int)) = true := by simp; omega
                have d1n : decide (0 < sn) = true := by simp; omega
                clear hz
                by_cases h6 : 64 < sn
                · have d2 : decide (64 < (sn : Int)) = true := by simp; omega
                  have d2n : decide (64 < sn) = true := by simp; omega
                  have HZ := Lib.hid (show mb = false by rw [HM2.out, d1n, decide_eq_false (show ¬ sn ≤ 64 by omega)]; rfl)
                  clear h6
                  go_wp2_with fail
                  go_meet
                  case rel => exact ⟨by rw [HZ.out]; rfl, HB2.out, HW2.out⟩
                · have d2 : decide (64 < (sn : Int)) = false := by simp; omega
                  have d2n : decide (64 < sn) = false := by simp; omega
                  have HZ := Lib.hid (show mb = true by rw [HM2.out, d1n, decide_eq_true (show sn ≤ 64 by omega)]; rfl)
                  clear h6
                  go_wp2_with fail
                  go_meet
                  case rel => exact ⟨by rw [HZ.out]; rfl, HB2.out, HW2.out⟩
        case rest =>
          obtain ⟨rfl, hbx3, hbw3⟩ := hcut
          clear c15 c16 c17 c18 hgl HB2 HW2 HMID
          have HB3 := Lib.hid hbx3
          have HW3 := Lib.hid hbw3
          clear hbx3 hbw3
          obtain ⟨c15, c16, c17, c18⟩ := HCL.out _ HB3.out
          have hgl := HB3.out.2.2
          cases mb
          · have HZ := Lib.hid (HFIN.out (fun h => by rw [HMB.out] at h; exact absurd h.1 (by decide)))
            go_wp2
            go_ret
            exact ⟨by rw [HZ.out]; rfl, HW3.out⟩
          · by_cases hl : lv = 0
            · have HZ := Lib.hid (HTRU.out HMB.out (.inl hl))
              subst hl
              go_wp2
              go_ret
              exact ⟨by rw [HZ.out]; rfl, HW3.out⟩
            · exfalso
              rcases HCASE.out with h | h
              · rw [HMB.out] at h; cases h
              · exact hl (by rw [← HLVE.out]; exact h)
end Go.Proofs.Ytipcnpnfdoainaa

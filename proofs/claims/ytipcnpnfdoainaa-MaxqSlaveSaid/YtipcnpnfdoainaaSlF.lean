/- The reference Slave: the walk where the objects are looked at; all parts together. -/
import Derived.Test.YtipcnpnfdoainaaSlE
set_option linter.unusedVariables false
set_option linter.unusedSimpArgs false
namespace Go.Proofs.Ytipcnpnfdoainaa
open Go.RowKit

set_option maxRecDepth 100000 in
set_option maxHeartbeats 16000000 in
theorem slave_good2 (S : Sl) (w : World) (hok : S.ok w w.heap.size) (hs1 : ∀ k, k < 4 → (S.tb k).n ≤ 40) (hs2 : S.on_ ≤ 40) (hs3 : S.sn ≤ 80) (r : Bool) (hr : slB S = r) (hhead : headB S = true) (htbs : ∀ j, j < 4 → tbOk j (S.tb j) = true) (hmidt : midB S = true) (hlv0 : S.lv ≠ 0) :
    Calls Try.prog 19 #[slV S] w fun e w' => e = .returned (.bool r) ∧ Below w.heap.size w w' := by
  obtain ⟨v, hv⟩ : ∃ v, validB S.b S.p = v := ⟨_, rfl⟩
  have HV := Lib.hid (fun W => refValid_any S.b S.p v hv W)
  have HVV := Lib.hid hv
  have HR := Lib.hid hr
  have HHEAD := Lib.hid hhead
  have HTBS := Lib.hid htbs
  have HMIDT := Lib.hid hmidt
  have HLV0 := Lib.hid hlv0
  have HOK := Lib.hid hok
  have HS1 := Lib.hid hs1
  have hbx := Box.alloc_ (w := w) (cs := slCells S) (e := 54)
  have hb0 : Below w.heap.size w (w.alloc (.cells (slCells S) 54)) := (Below.refl _ _).alloc (Nat.le_refl _) _
  obtain ⟨g, hg⟩ : ∃ g, w.heap.size = g := ⟨_, rfl⟩
  obtain ⟨W1, hW1⟩ : ∃ W, w.alloc (.cells (slCells S) 54) = W := ⟨_, rfl⟩
  rw [hW1] at hb0
  rw [hW1, hg] at hbx
  have HB0 := Lib.hid hb0
  have HBX := Lib.hid hbx
  have HW1 := Lib.hid hW1
  have HG := Lib.hid hg
  clear hv hr hhead htbs hmidt hlv0 hok hs1 hbx hb0 hW1 hg
  go_enter Try.func19, Try.ntmps19
  go_upto_region 1 with fail
  try rw [HW1.out]
  try rw [HG.out]
  obtain ⟨q, z, lx⟩ := HBX.out
  unfold slCells at q
  go_wp2_with fail
  refine (HV.out _).mono ?_
  rintro e w1 ⟨rfl, hb1⟩
  have HB1 := Lib.hid (ext_trans HB0.out hb1)
  have HBX1 := Lib.hid (HBX.out.below hb1)
  clear hb1 q z lx HBX HB0
  obtain ⟨q, z, lx⟩ := HBX1.out
  unfold slCells at q
  · obtain rfl : v = true := by
      have h := HHEAD.out
      rw [headB, HVV.out, Bool.and_eq_true] at h
      exact h.1
    have hhd := HHEAD.out
    rw [headB, HVV.out, Bool.true_and, decide_eq_true_eq] at hhd
    have d1 : decide (S.u < 1) = false := by simp; omega
    have d2 : decide (247 < S.u) = false := by simp; omega
    have d3 : decide (S.lv < 0) = false := by simp; omega
    have d4 : decide (3 < S.lv) = false := by simp; omega
    have HHD := Lib.hid (show headB S = true from HHEAD.out)
    have HLV := Lib.hid (show 0 ≤ S.lv ∧ S.lv ≤ 3 by omega)
    clear hhd
    go_wp2_with fail
    clear d1 d2 d3 d4 q z lx
    go_loopw [3, 4] (fun iv u4 x => ∃ k : Nat, k ≤ 4 ∧ iv = .int .i64 k ∧ (∀ j, j < k → tbOk j (S.tb j) = true) ∧ Box x g (slCells S) ∧ Below w.heap.size w x) (fun iv _ _ => 4 - (intOf iv).toNat)
    case atStart => exact ⟨0, by omega, rfl, (fun j hj => by omega), HBX1.out, HB1.out⟩
    case round =>
      obtain ⟨k, hk, rfl, hall, hbx, hbw⟩ := hrel
      have HALL := Lib.hid hall
      have HB2 := Lib.hid hbx
      have HW2 := Lib.hid hbw
      clear hall hbx hbw
      by_cases hlt : k < 4
      · have HLT := Lib.hid hlt
        have hn40 := HS1.out k hlt
        have hrk := HOK.out.1 k hlt
        obtain ⟨t0, t1, t2⟩ := sl_tb HB2.out k hlt
        have hgl := HB2.out.2.2
        have hfz := HB2.out.2.1
        obtain ⟨T, hT⟩ : ∃ T, S.tb k = T := ⟨_, rfl⟩
        rw [hT] at t0 t1 t2 hn40 hrk
        obtain ⟨sup, At, n, c, rs, most⟩ := T
        dsimp only at t0 t1 t2 hn40 hrk
        have hfin : tbOk k ⟨sup, At, n, c, rs, most⟩ = false → r = false := fun hn => by
          rw [← HR.out]; exact slB_false (fun h => by have h1 := h.2.1 k hlt; rw [hT, hn] at h1; cases h1)
        have HFIN := Lib.hid hfin
        have hok : tbOk k ⟨sup, At, n, c, rs, most⟩ = true → ∀ j, j < k + 1 → tbOk j (S.tb j) = true := fun hn j hj => by
          rcases Nat.lt_or_ge j k with h | h
          · exact HALL.out j h
          · rw [show j = k by omega, hT]; exact hn
        have HNX := Lib.hid hok
        have HTKE := Lib.hid hT
        have HRK := Lib.hid hrk
        clear hfin hok hT hrk
        go_upto_region 7 with fail
        have kw : IntKind.i64.wrap ((k : Int) + 1) = (k : Int) + 1 := IntWalk.i64_in _ ⟨by omega, by omega⟩
        have HBT := Lib.hid (Box.alloc_ (w := wr) (cs := #[.bool sup, .slice At n c, .int .i64 most]) (e := 51))
        have HB3 := Lib.hid (HB2.out.alloc' (.cells #[.bool sup, .slice At n c, .int .i64 most] 51))
        have HBA := Lib.hid (ext_alloc HW2.out (.cells #[.bool sup, .slice At n c, .int .i64 most] 51))
        have HTF := Lib.hid (fun (W : World) (h : Box W wr.heap.size #[.bool sup, .slice At n c, .int .i64 most]) => show (W.cell? ⟨wr.heap.size, 0, none⟩ = some (.bool sup) ∧ W.cell? ⟨wr.heap.size, 1, none⟩ = some (.slice At n c) ∧ W.cell? ⟨wr.heap.size, 2, none⟩ = some (.int .i64 most)) from ⟨h.1 0, h.1 1, h.1 2⟩)
        obtain ⟨qt, zt, lt⟩ := HBT.out
        clear t0 t1 t2 hfz hgl
        have htk := HTBS.out k hlt
        rw [HTKE.out] at htk
        cases sup
        · have hn0 : n = 0 ∧ most = 0 := by simpa [tbOk] using htk
          obtain ⟨hn0, hm0⟩ := hn0
          subst hn0
          subst hm0
          have HN2 := Lib.hid (HNX.out htk)
          clear htk
          go_upto_region 9 with fail
          have HBR := Lib.hid (below_drew HBA.out)
          have HTD := Lib.hid HBT.out.drew
          have HBD := Lib.hid HB3.out.drew
          have hS0 := HTF.out _ HTD.out
          refine rgs_start (fun w' => w'.cell? ⟨wr.heap.size, 0, none⟩ = some (.bool false) ∧ w'.cell? ⟨wr.heap.size, 1, none⟩ = some (.slice At 0 c) ∧ w'.cell? ⟨wr.heap.size, 2, none⟩ = some (.int .i64 0)) (by kernel_rfl) ?_
          refine rgs_t (v := ?_) (some 53) 0 (by kernel_rfl) rfl rfl (by assumption) (.inl ⟨by rfl, fun w' hw => ?_⟩) ?_
          rotate_left
          · obtain ⟨q1, q2, q3⟩ := hw; go_simp <;> with_reducible rfl
          try simp only [Act.put, List.setIfInBounds_toArray, List.set_cons_zero, List.set_cons_succ]
          refine rgs_t (v := ?_) (some 54) 1 (by kernel_rfl) rfl rfl (by assumption) (.inl ⟨by rfl, fun w' hw => ?_⟩) ?_
          rotate_left
          · obtain ⟨q1, q2, q3⟩ := hw; go_simp <;> with_reducible rfl
          try simp only [Act.put, List.setIfInBounds_toArray, List.set_cons_zero, List.set_cons_succ]
          refine rgs_t (v := ?_) (some 55) 2 (by kernel_rfl) rfl rfl (by assumption) (.inl ⟨by rfl, fun w' hw => ?_⟩) ?_
          rotate_left
          · obtain ⟨q1, q2, q3⟩ := hw; go_simp <;> with_reducible rfl
          try simp only [Act.put, List.setIfInBounds_toArray, List.set_cons_zero, List.set_cons_succ]
          refine rgs_t (some 56) 3 (by kernel_rfl) rfl rfl (by assumption) (.inr ⟨by rfl, rfl⟩) ?_
          try simp only [Act.put, List.setIfInBounds_toArray, List.set_cons_zero, List.set_cons_succ]
          refine rgs_t (some 57) 4 (by kernel_rfl) rfl rfl (by assumption) (.inr ⟨by rfl, rfl⟩) ?_
          try simp only [Act.put, List.setIfInBounds_toArray, List.set_cons_zero, List.set_cons_succ]
          refine rgs_t (some 58) 5 (by kernel_rfl) rfl rfl (by assumption) (.inr ⟨by rfl, rfl⟩) ?_
          try simp only [Act.put, List.setIfInBounds_toArray, List.set_cons_zero, List.set_cons_succ]
          refine rgs_t (some 59) 6 (by kernel_rfl) rfl rfl (by assumption) (.inr ⟨by rfl, rfl⟩) ?_
          try simp only [Act.put, List.setIfInBounds_toArray, List.set_cons_zero, List.set_cons_succ]
          refine rgs_t (some 60) 7 (by kernel_rfl) rfl rfl (by assumption) (.inr ⟨by rfl, rfl⟩) ?_
          try simp only [Act.put, List.setIfInBounds_toArray, List.set_cons_zero, List.set_cons_succ]
          refine rgs_t (some 61) 8 (by kernel_rfl) rfl rfl (by assumption) (.inr ⟨by rfl, rfl⟩) ?_
          try simp only [Act.put, List.setIfInBounds_toArray, List.set_cons_zero, List.set_cons_succ]
          refine rgs_t (some 62) 9 (by kernel_rfl) rfl rfl (by assumption) (.inr ⟨by rfl, rfl⟩) ?_
          try simp only [Act.put, List.setIfInBounds_toArray, List.set_cons_zero, List.set_cons_succ]
          refine rgs_t (some 63) 10 (by kernel_rfl) rfl rfl (by assumption) (.inr ⟨by rfl, rfl⟩) ?_
          try simp only [Act.put, List.setIfInBounds_toArray, List.set_cons_zero, List.set_cons_succ]
          refine rgs_t (some 64) 11 (by kernel_rfl) rfl rfl (by assumption) (.inr ⟨by rfl, rfl⟩) ?_
          try simp only [Act.put, List.setIfInBounds_toArray, List.set_cons_zero, List.set_cons_succ]
          refine rgs_t (some 65) 12 (by kernel_rfl) rfl rfl (by assumption) (.inr ⟨by rfl, rfl⟩) ?_
          try simp only [Act.put, List.setIfInBounds_toArray, List.set_cons_zero, List.set_cons_succ]
          refine rgs_t (some 66) 13 (by kernel_rfl) rfl rfl (by assumption) (.inr ⟨by rfl, rfl⟩) ?_
          try simp only [Act.put, List.setIfInBounds_toArray, List.set_cons_zero, List.set_cons_succ]
          refine rgs_t (some 67) 14 (by kernel_rfl) rfl rfl (by assumption) (.inr ⟨by rfl, rfl⟩) ?_
          try simp only [Act.put, List.setIfInBounds_toArray, List.set_cons_zero, List.set_cons_succ]
          refine rgs_t (some 68) 15 (by kernel_rfl) rfl rfl (by assumption) (.inr ⟨by rfl, rfl⟩) ?_
          try simp only [Act.put, List.setIfInBounds_toArray, List.set_cons_zero, List.set_cons_succ]
          refine rgs_t (some 69) 16 (by kernel_rfl) rfl rfl (by assumption) (.inr ⟨by rfl, rfl⟩) ?_
          try simp only [Act.put, List.setIfInBounds_toArray, List.set_cons_zero, List.set_cons_succ]
          refine rgs_t (some 70) 17 (by kernel_rfl) rfl rfl (by assumption) (.inr ⟨by rfl, rfl⟩) ?_
          try simp only [Act.put, List.setIfInBounds_toArray, List.set_cons_zero, List.set_cons_succ]
          refine rgs_t (some 71) 18 (by kernel_rfl) rfl rfl (by assumption) (.inr ⟨by rfl, rfl⟩) ?_
          try simp only [Act.put, List.setIfInBounds_toArray, List.set_cons_zero, List.set_cons_succ]
          refine rgs_t (some 72) 19 (by kernel_rfl) rfl rfl (by assumption) (.inr ⟨by rfl, rfl⟩) ?_
          try simp only [Act.put, List.setIfInBounds_toArray, List.set_cons_zero, List.set_cons_succ]
          refine rgs_t (some 73) 20 (by kernel_rfl) rfl rfl (by assumption) (.inr ⟨by rfl, rfl⟩) ?_
          try simp only [Act.put, List.setIfInBounds_toArray, List.set_cons_zero, List.set_cons_succ]
          refine rgs_t (some 74) 21 (by kernel_rfl) rfl rfl (by assumption) (.inr ⟨by rfl, rfl⟩) ?_
          try simp only [Act.put, List.setIfInBounds_toArray, List.set_cons_zero, List.set_cons_succ]
          refine rgs_t (some 75) 22 (by kernel_rfl) rfl rfl (by assumption) (.inr ⟨by rfl, rfl⟩) ?_
          try simp only [Act.put, List.setIfInBounds_toArray, List.set_cons_zero, List.set_cons_succ]
          refine rgs_t (some 76) 23 (by kernel_rfl) rfl rfl (by assumption) (.inr ⟨by rfl, rfl⟩) ?_
          try simp only [Act.put, List.setIfInBounds_toArray, List.set_cons_zero, List.set_cons_succ]
          refine rgs_t (some 77) 24 (by kernel_rfl) rfl rfl (by assumption) (.inr ⟨by rfl, rfl⟩) ?_
          try simp only [Act.put, List.setIfInBounds_toArray, List.set_cons_zero, List.set_cons_succ]
          refine rgs_t (some 78) 25 (by kernel_rfl) rfl rfl (by assumption) (.inr ⟨by rfl, rfl⟩) ?_
          try simp only [Act.put, List.setIfInBounds_toArray, List.set_cons_zero, List.set_cons_succ]
          refine rgs_t (v := ?_) (some 79) 26 (by kernel_rfl) rfl rfl (by assumption) (.inl ⟨by rfl, fun w' hw => ?_⟩) ?_
          rotate_left
          · obtain ⟨q1, q2, q3⟩ := hw; go_simp <;> with_reducible rfl
          try simp only [Act.put, List.setIfInBounds_toArray, List.set_cons_zero, List.set_cons_succ]
          refine rgs_d (by kernel_rfl) ?_
          go_wp2_with fail
          go_roundw
          case rel => exact ⟨k + 1, by have := HLT.out; omega, by go_num, HN2.out, HBD.out, HBR.out⟩
          case measure => simp [intOf]; have := HLT.out; omega
        · have htk2 : ((n ≤ 32 ∧ validL rs = true) ∧ 1 ≤ most) ∧ most ≤ slimZ ((k : Int) + 1) := by simpa [tbOk] using htk
          obtain ⟨⟨⟨h1, hvl⟩, h2⟩, h3⟩ := htk2
          have d1 : decide (32 < (n : Int)) = false := by simp; omega
          have d1n : decide (32 < n) = false := by simp; omega
          have HVL := Lib.hid (fun (W : World) (h : Rd W w.heap.size 2 At n (rgCells rs)) => rgvalid_any rs At n c w.heap.size W h (by omega) true hvl)
          have d2 : decide (most < 1) = false := by simp; omega
          obtain ⟨lm, hlm⟩ : ∃ z, slimZ ((k : Int) + 1) = z := ⟨_, rfl⟩
          rw [hlm] at h3
          have d3 : decide (lm < most) = false := by simp; omega
          have HN2 := Lib.hid (HNX.out htk)
          have HLM := Lib.hid (fun W => hlm ▸ srlim_any ((k : Int) + 1) W)
          clear h1 h2 h3 hvl hlm htk
          go_upto_region 9 with fail
          have HBR := Lib.hid (below_drew HBA.out)
          have HTD := Lib.hid HBT.out.drew
          have HBD := Lib.hid HB3.out.drew
          have hS0 := HTF.out _ HTD.out
          refine rgs_start (fun w' => w'.cell? ⟨wr.heap.size, 0, none⟩ = some (.bool true) ∧ w'.cell? ⟨wr.heap.size, 1, none⟩ = some (.slice At n c) ∧ w'.cell? ⟨wr.heap.size, 2, none⟩ = some (.int .i64 most)) (by kernel_rfl) ?_
          refine rgs_t (v := ?_) (some 53) 0 (by kernel_rfl) rfl rfl (by assumption) (.inl ⟨by rfl, fun w' hw => ?_⟩) ?_
          rotate_left
          · obtain ⟨q1, q2, q3⟩ := hw; go_simp <;> with_reducible rfl
          try simp only [Act.put, List.setIfInBounds_toArray, List.set_cons_zero, List.set_cons_succ]
          refine rgs_t (v := ?_) (some 54) 1 (by kernel_rfl) rfl rfl (by assumption) (.inl ⟨by rfl, fun w' hw => ?_⟩) ?_
          rotate_left
          · obtain ⟨q1, q2, q3⟩ := hw; go_simp <;> with_reducible rfl
          try simp only [Act.put, List.setIfInBounds_toArray, List.set_cons_zero, List.set_cons_succ]
          refine rgs_t (v := ?_) (some 55) 2 (by kernel_rfl) rfl rfl (by assumption) (.inl ⟨by rfl, fun w' hw => ?_⟩) ?_
          rotate_left
          · obtain ⟨q1, q2, q3⟩ := hw; go_simp <;> with_reducible rfl
          try simp only [Act.put, List.setIfInBounds_toArray, List.set_cons_zero, List.set_cons_succ]
          refine rgs_t (v := ?_) (some 56) 3 (by kernel_rfl) rfl rfl (by assumption) (.inl ⟨by rfl, fun w' hw => ?_⟩) ?_
          rotate_left
          · obtain ⟨q1, q2, q3⟩ := hw; go_simp <;> with_reducible rfl
          try simp only [Act.put, List.setIfInBounds_toArray, List.set_cons_zero, List.set_cons_succ]
          refine rgs_t (v := ?_) (some 57) 4 (by kernel_rfl) rfl rfl (by assumption) (.inl ⟨by rfl, fun w' hw => ?_⟩) ?_
          rotate_left
          · obtain ⟨q1, q2, q3⟩ := hw; go_simp <;> with_reducible rfl
          try simp only [Act.put, List.setIfInBounds_toArray, List.set_cons_zero, List.set_cons_succ]
          refine rgs_t (v := ?_) (some 58) 5 (by kernel_rfl) rfl rfl (by assumption) (.inl ⟨by rfl, fun w' hw => ?_⟩) ?_
          rotate_left
          · obtain ⟨q1, q2, q3⟩ := hw; go_simp <;> with_reducible rfl
          try simp only [Act.put, List.setIfInBounds_toArray, List.set_cons_zero, List.set_cons_succ]
          refine rgs_t (v := ?_) (some 59) 6 (by kernel_rfl) rfl rfl (by assumption) (.inl ⟨by rfl, fun w' hw => ?_⟩) ?_
          rotate_left
          · obtain ⟨q1, q2, q3⟩ := hw; go_simp <;> with_reducible rfl
          try simp only [Act.put, List.setIfInBounds_toArray, List.set_cons_zero, List.set_cons_succ]
          refine rgs_t (v := ?_) (some 60) 7 (by kernel_rfl) rfl rfl (by assumption) (.inl ⟨by rfl, fun w' hw => ?_⟩) ?_
          rotate_left
          · obtain ⟨q1, q2, q3⟩ := hw; go_simp <;> with_reducible rfl
          try simp only [Act.put, List.setIfInBounds_toArray, List.set_cons_zero, List.set_cons_succ]
          refine rgs_t (v := ?_) (some 61) 8 (by kernel_rfl) rfl rfl (by assumption) (.inl ⟨by rfl, fun w' hw => ?_⟩) ?_
          rotate_left
          · obtain ⟨q1, q2, q3⟩ := hw; go_simp <;> with_reducible rfl
          try simp only [Act.put, List.setIfInBounds_toArray, List.set_cons_zero, List.set_cons_succ]
          refine rgs_t (v := ?_) (some 62) 9 (by kernel_rfl) rfl rfl (by assumption) (.inl ⟨by rfl, fun w' hw => ?_⟩) ?_
          rotate_left
          · obtain ⟨q1, q2, q3⟩ := hw; go_simp <;> with_reducible rfl
          try simp only [Act.put, List.setIfInBounds_toArray, List.set_cons_zero, List.set_cons_succ]
          refine rgs_c 10 (by kernel_rfl) rfl (by rfl) (fun K hK => ?_)
          go_simp
          refine (HVL.out _ (HRK.out.below HBR.out (Nat.le_refl _))).mono ?_
          rintro e x5 ⟨rfl, hb5⟩
          have HBR := Lib.hid (ext_trans HBR.out hb5)
          have HTD := Lib.hid (HTD.out.below hb5)
          have HBD := Lib.hid (HBD.out.below hb5)
          have hS5 := HTF.out _ HTD.out
          refine hK _ _ hS5 ?_
          clear hb5 hS0
          clear hK K
          try simp only [Act.put, List.setIfInBounds_toArray, List.set_cons_zero, List.set_cons_succ]
          refine rgs_t (v := ?_) (some 64) 11 (by kernel_rfl) rfl rfl (by assumption) (.inl ⟨by rfl, fun w' hw => ?_⟩) ?_
          rotate_left
          · obtain ⟨q1, q2, q3⟩ := hw; go_simp <;> with_reducible rfl
          try simp only [Act.put, List.setIfInBounds_toArray, List.set_cons_zero, List.set_cons_succ]
          refine rgs_t (v := ?_) (some 65) 12 (by kernel_rfl) rfl rfl (by assumption) (.inl ⟨by rfl, fun w' hw => ?_⟩) ?_
          rotate_left
          · obtain ⟨q1, q2, q3⟩ := hw; go_simp <;> with_reducible rfl
          try simp only [Act.put, List.setIfInBounds_toArray, List.set_cons_zero, List.set_cons_succ]
          refine rgs_t (v := ?_) (some 66) 13 (by kernel_rfl) rfl rfl (by assumption) (.inl ⟨by rfl, fun w' hw => ?_⟩) ?_
          rotate_left
          · obtain ⟨q1, q2, q3⟩ := hw; go_simp <;> with_reducible rfl
          try simp only [Act.put, List.setIfInBounds_toArray, List.set_cons_zero, List.set_cons_succ]
          refine rgs_t (v := ?_) (some 67) 14 (by kernel_rfl) rfl rfl (by assumption) (.inl ⟨by rfl, fun w' hw => ?_⟩) ?_
          rotate_left
          · obtain ⟨q1, q2, q3⟩ := hw; go_simp <;> with_reducible rfl
          try simp only [Act.put, List.setIfInBounds_toArray, List.set_cons_zero, List.set_cons_succ]
          refine rgs_t (v := ?_) (some 68) 15 (by kernel_rfl) rfl rfl (by assumption) (.inl ⟨by rfl, fun w' hw => ?_⟩) ?_
          rotate_left
          · obtain ⟨q1, q2, q3⟩ := hw; go_simp <;> with_reducible rfl
          try simp only [Act.put, List.setIfInBounds_toArray, List.set_cons_zero, List.set_cons_succ]
          refine rgs_t (v := ?_) (some 69) 16 (by kernel_rfl) rfl rfl (by assumption) (.inl ⟨by rfl, fun w' hw => ?_⟩) ?_
          rotate_left
          · obtain ⟨q1, q2, q3⟩ := hw; go_simp <;> with_reducible rfl
          try simp only [Act.put, List.setIfInBounds_toArray, List.set_cons_zero, List.set_cons_succ]
          refine rgs_t (v := ?_) (some 70) 17 (by kernel_rfl) rfl rfl (by assumption) (.inl ⟨by rfl, fun w' hw => ?_⟩) ?_
          rotate_left
          · obtain ⟨q1, q2, q3⟩ := hw; go_simp <;> with_reducible rfl
          try simp only [Act.put, List.setIfInBounds_toArray, List.set_cons_zero, List.set_cons_succ]
          refine rgs_t (v := ?_) (some 71) 18 (by kernel_rfl) rfl rfl (by assumption) (.inl ⟨by rfl, fun w' hw => ?_⟩) ?_
          rotate_left
          · obtain ⟨q1, q2, q3⟩ := hw; go_simp <;> with_reducible rfl
          try simp only [Act.put, List.setIfInBounds_toArray, List.set_cons_zero, List.set_cons_succ]
          refine rgs_t (v := ?_) (some 72) 19 (by kernel_rfl) rfl rfl (by assumption) (.inl ⟨by rfl, fun w' hw => ?_⟩) ?_
          rotate_left
          · obtain ⟨q1, q2, q3⟩ := hw; go_simp <;> with_reducible rfl
          try simp only [Act.put, List.setIfInBounds_toArray, List.set_cons_zero, List.set_cons_succ]
          refine rgs_t (v := ?_) (some 73) 20 (by kernel_rfl) rfl rfl (by assumption) (.inl ⟨by rfl, fun w' hw => ?_⟩) ?_
          rotate_left
          · obtain ⟨q1, q2, q3⟩ := hw; go_simp <;> with_reducible rfl
          try simp only [Act.put, List.setIfInBounds_toArray, List.set_cons_zero, List.set_cons_succ]
          refine rgs_t (v := ?_) (some 74) 21 (by kernel_rfl) rfl rfl (by assumption) (.inl ⟨by rfl, fun w' hw => ?_⟩) ?_
          rotate_left
          · obtain ⟨q1, q2, q3⟩ := hw; go_simp <;> with_reducible rfl
          try simp only [Act.put, List.setIfInBounds_toArray, List.set_cons_zero, List.set_cons_succ]
          refine rgs_t (v := ?_) (some 75) 22 (by kernel_rfl) rfl rfl (by assumption) (.inl ⟨by rfl, fun w' hw => ?_⟩) ?_
          rotate_left
          · obtain ⟨q1, q2, q3⟩ := hw; go_simp <;> with_reducible rfl
          try simp only [Act.put, List.setIfInBounds_toArray, List.set_cons_zero, List.set_cons_succ]
          refine rgs_c 23 (by kernel_rfl) rfl (by rfl) (fun K hK => ?_)
          go_simp
          refine (HLM.out _).mono ?_
          rintro e x6 ⟨rfl, rfl⟩
          refine hK _ _ hS5 ?_
          clear hK K
          try simp only [Act.put, List.setIfInBounds_toArray, List.set_cons_zero, List.set_cons_succ]
          refine rgs_t (v := ?_) (some 77) 24 (by kernel_rfl) rfl rfl (by assumption) (.inl ⟨by rfl, fun w' hw => ?_⟩) ?_
          rotate_left
          · obtain ⟨q1, q2, q3⟩ := hw; go_simp <;> with_reducible rfl
          try simp only [Act.put, List.setIfInBounds_toArray, List.set_cons_zero, List.set_cons_succ]
          refine rgs_t (v := ?_) (some 78) 25 (by kernel_rfl) rfl rfl (by assumption) (.inl ⟨by rfl, fun w' hw => ?_⟩) ?_
          rotate_left
          · obtain ⟨q1, q2, q3⟩ := hw; go_simp <;> with_reducible rfl
          try simp only [Act.put, List.setIfInBounds_toArray, List.set_cons_zero, List.set_cons_succ]
          refine rgs_t (v := ?_) (some 79) 26 (by kernel_rfl) rfl rfl (by assumption) (.inl ⟨by rfl, fun w' hw => ?_⟩) ?_
          rotate_left
          · obtain ⟨q1, q2, q3⟩ := hw; go_simp <;> with_reducible rfl
          try simp only [Act.put, List.setIfInBounds_toArray, List.set_cons_zero, List.set_cons_succ]
          refine rgs_d (by kernel_rfl) ?_
          go_wp2_with fail
          go_roundw
          case rel => exact ⟨k + 1, by have := HLT.out; omega, by go_num, HN2.out, HBD.out, HBR.out⟩
          case measure => simp [intOf]; have := HLT.out; omega
      · obtain rfl : k = 4 := by omega
        have hfin : ¬ (midB S = true ∧ (S.lv = 0 ∨ objB S = true)) → r = false := fun hn => by
          rw [← HR.out]; exact slB_false (fun h => hn ⟨h.2.2.1, h.2.2.2⟩)
        have HFIN := Lib.hid hfin
        have htru : midB S = true → (S.lv = 0 ∨ objB S = true) → r = true := fun h1 h2 => by
          rw [← HR.out]; exact slB_true HHD.out HALL.out h1 h2
        have HTRU := Lib.hid htru
        obtain ⟨lv, hlv⟩ : ∃ z, S.lv = z := ⟨_, rfl⟩
        obtain ⟨on, hon⟩ : ∃ z, S.on_ = z := ⟨_, rfl⟩
        obtain ⟨hs, hhs⟩ : ∃ z, S.hs = z := ⟨_, rfl⟩
        obtain ⟨sn, hsn⟩ : ∃ z, S.sn = z := ⟨_, rfl⟩
        have HCL := Lib.hid (fun (W : World) (h : Box W g (slCells S)) => show (W.cell? ⟨g, 15, none⟩ = some (.int .i64 lv) ∧ W.cell? ⟨g, 16, none⟩ = some (.slice S.oA on S.oc) ∧ W.cell? ⟨g, 17, none⟩ = some (.bool hs) ∧ W.cell? ⟨g, 18, none⟩ = some (.slice S.sA sn S.sc)) from by
          rw [← hlv, ← hon, ← hhs, ← hsn]; exact ⟨h.1 15, h.1 16, h.1 17, h.1 18⟩)
        have hrd := HOK.out.2.1
        rw [hon] at hrd
        have HRO := Lib.hid hrd
        have hmid : midB S = (!(decide (lv = 0) && decide (on ≠ 0)) && (hs == decide (0 < sn)) && decide (sn ≤ 64)) := by rw [← hlv, ← hon, ← hhs, ← hsn]; rfl
        have hlvb := HLV.out
        rw [hlv] at hlvb hfin htru
        rw [hon] at hs2
        rw [hsn] at hs3
        have HFIN := Lib.hid hfin
        have HTRU := Lib.hid htru
        have HMID := Lib.hid hmid
        have HLVB := Lib.hid hlvb
        have HLVE := Lib.hid hlv
        have hob : objB S = (decide (on ≤ 16) && rising S.obs && decide (3 ≤ on) && decide (S.obs[2]?.map Ob.id = some 2) && !(decide (lv = 1) && decide (2 < topId S.obs)) && !(decide (lv = 2) && decide (127 < topId S.obs)) && S.obs.all (fun o => decide (o.n ≤ 64))) := by rw [← hlv, ← hon]; rfl
        have HOB := Lib.hid hob
        have HON := Lib.hid hon
        have HS2 := Lib.hid hs2
        clear hfin htru hmid hlvb hob hon hhs hsn hlv hrd hlt hk hs2 hs3
        obtain ⟨mb, hmb⟩ : ∃ z, midB S = z := ⟨_, rfl⟩
        have HMB := Lib.hid hmb
        rw [hmb] at HMID
        clear hmb
        obtain ⟨c15, c16, c17, c18⟩ := HCL.out _ HB2.out
        have hgl := HB2.out.2.2
        go_upto_region 11 with fail
        go_cut [103] (fun u x => u = .bool (!mb) ∧ Box x g (slCells S) ∧ Below w.heap.size w x)
        case first =>
          have hl : ¬ lv = 0 := fun h => HLV0.out (by rw [HLVE.out]; exact h)
          have d9 : (lv == 0) = false := by simpa using hl
          have hmid := HMID.out
          have hmt : mb = true := by rw [← HMB.out]; exact HMIDT.out
          subst hmt
          rw [decide_eq_false hl, Bool.false_and, Bool.not_false, Bool.true_and, eq_comm, Bool.and_eq_true] at hmid
          obtain ⟨hm1, hm2⟩ := hmid
          have hsn64 : sn ≤ 64 := by simpa using hm2
          clear hl hm2
          cases hs
          · have hz : sn = 0 := by simp at hm1; omega
            subst hz
            clear hm1
            go_wp2_with fail
            go_meet
            case rel => exact ⟨rfl, HB2.out, HW2.out⟩
          · have hz : 0 < sn := by simp at hm1; omega
            have d1 : decide (0 < (sn : Int)) = true := by simp; omega
            have d1n : decide (0 < sn) = true := by simp; omega
            have d2 : decide (64 < (sn : Int)) = false := by simp; omega
            have d2n : decide (64 < sn) = false := by simp; omega
            clear hm1
            go_wp2_with fail
            go_meet
            case rel => exact ⟨rfl, HB2.out, HW2.out⟩
        case rest =>
          obtain ⟨rfl, hbx3, hbw3⟩ := hcut
          clear c15 c16 c17 c18 hgl HB2 HW2 HMID
          have HB3 := Lib.hid hbx3
          have HW3 := Lib.hid hbw3
          clear hbx3 hbw3
          obtain ⟨c15, c16, c17, c18⟩ := HCL.out _ HB3.out
          have hgl := HB3.out.2.2
          · have hl : ¬ lv = 0 := fun h => HLV0.out (by rw [HLVE.out]; exact h)
            obtain rfl : mb = true := by rw [← HMB.out]; exact HMIDT.out
            · have d9 : (lv == 0) = false := by simpa using hl
              have hf2 : objB S = false → r = false := fun h => HFIN.out (fun hh => by
                rcases hh.2 with h3 | h3
                · exact hl h3
                · rw [h] at h3; cases h3)
              have HF2 := Lib.hid hf2
              have HT2 := Lib.hid (fun h => HTRU.out HMB.out (.inr h))
              clear hl hf2 HFIN HTRU
              obtain ⟨ob, hob2⟩ : ∃ z, (decide (on ≤ 16) && rising S.obs && decide (3 ≤ on) && decide (S.obs[2]?.map Ob.id = some 2)) = z := ⟨_, rfl⟩
              obtain ⟨rv, hrv⟩ : ∃ z, rising S.obs = z := ⟨_, rfl⟩
              have HRV := Lib.hid (fun (W : World) (h : Rd W w.heap.size 2 S.oA on (obCells S.obs)) => rising_any S.obs S.oA on S.oc w.heap.size W h (by have := HS2.out; omega) rv hrv)
              have hob2' := hob2
              rw [hrv] at hob2'
              have HO2 := Lib.hid hob2'
              have hob3 := HOB.out
              rw [hob2] at hob3
              have HO3 := Lib.hid hob3
              clear hob2 hob2' hob3 hrv HOB
              go_upto_region 15 with fail
              go_cut [130] (fun u x => u = .bool (!ob) ∧ Box x g (slCells S) ∧ Below w.heap.size w x)
              case first =>
                by_cases h6 : 16 < on
                · have d1 : decide (16 < (on : Int)) = true := by simp; omega
                  have d1n : decide (16 < on) = true := by simp; omega
                  have HZ := Lib.hid (show ob = false by rw [← HO2.out, decide_eq_false (show ¬ on ≤ 16 by omega)]; rfl)
                  clear h6
                  go_wp2_with fail
                  go_meet
                  case rel => exact ⟨by rw [HZ.out]; rfl, HB3.out, HW3.out⟩
                · have d1 : decide (16 < (on : Int)) = false := by simp; omega
                  have d1n : decide (16 < on) = false := by simp; omega
                  have ho2 := HO2.out
                  rw [decide_eq_true (show on ≤ 16 by omega), Bool.true_and] at ho2
                  have HO4 := Lib.hid ho2
                  have HS6 := Lib.hid h6
                  clear h6 ho2
                  go_wp2_with fail
                  refine (HRV.out _ (HRO.out.below HW3.out (Nat.le_refl _))).mono ?_
                  rintro e x5 ⟨rfl, hb5⟩
                  have HB5 := Lib.hid (HB3.out.below hb5)
                  have HW5 := Lib.hid (ext_trans HW3.out hb5)
                  clear hb5 c15 c16 c17 c18 hgl
                  obtain ⟨c15, c16, c17, c18⟩ := HCL.out _ HB5.out
                  have hgl := HB5.out.2.2
                  cases rv
                  · have HZ := Lib.hid (show ob = false by rw [← HO4.out]; rfl)
                    go_wp2_with fail
                    go_meet
                    case rel => exact ⟨by rw [HZ.out]; rfl, HB5.out, HW5.out⟩
                  · by_cases h7 : on < 3
                    · have d2 : decide ((on : Int) < 3) = true := by simp; omega
                      have d2n : decide (on < 3) = true := by simp; omega
                      have HZ := Lib.hid (show ob = false by rw [← HO4.out, decide_eq_false (show ¬ 3 ≤ on by omega)]; rfl)
                      clear h7
                      go_wp2_with fail
                      go_meet
                      case rel => exact ⟨by rw [HZ.out]; rfl, HB5.out, HW5.out⟩
                    · have d2 : decide ((on : Int) < 3) = false := by simp; omega
                      have d2n : decide (on < 3) = false := by simp; omega
                      obtain ⟨bo, oo, hA, hbo, hk2, e0, e9⟩ := sob_at (HRO.out.below HW5.out (Nat.le_refl _)) 2 (by omega)
                      have hon2 : 2 < on := by omega
                      obtain ⟨id2, hid2⟩ : ∃ z, S.obs[2].id = z := ⟨_, rfl⟩
                      rw [hid2] at e0
                      have ho4 := HO4.out
                      rw [decide_eq_true (show 3 ≤ on by omega), List.getElem?_eq_getElem hk2, Option.map_some, hid2] at ho4
                      have HO5 := Lib.hid ho4
                      rw [hA] at c16
                      have e0' : x5.cell? ⟨bo, oo + 4, none⟩ = some (.int .i64 id2) := e0
                      have HAA := Lib.hid hA
                      clear e9 hid2 ho4 hk2 hA e0 h7
                      by_cases h8 : id2 = 2
                      · subst h8
                        have HZ := Lib.hid (show ob = true by rw [← HO5.out]; rfl)
                        go_wp2_with fail
                        go_meet
                        case rel => exact ⟨by rw [HZ.out]; rfl, HB5.out, HW5.out⟩
                      · have d3 : (id2 == 2) = false := by simpa using h8
                        have HZ := Lib.hid (show ob = false by rw [← HO5.out, decide_eq_false (show ¬ some id2 = some 2 by simpa using h8)]; rfl)
                        go_wp2_with fail
                        go_meet
                        case rel => exact ⟨by rw [HZ.out, bne, d3], HB5.out, HW5.out⟩
              case rest =>
                obtain ⟨rfl, hbx3, hbw3⟩ := hcut
                clear c15 c16 c17 c18 hgl HB3 HW3
                have HB3 := Lib.hid hbx3
                have HW3 := Lib.hid hbw3
                clear hbx3 hbw3
                obtain ⟨c15, c16, c17, c18⟩ := HCL.out _ HB3.out
                have hgl := HB3.out.2.2
                cases ob
                · have HZ := Lib.hid (HF2.out (by rw [HO3.out]; rfl))
                  go_wp2
                  go_ret
                  exact ⟨by rw [HZ.out]; rfl, HW3.out⟩
                · have ho := HO2.out
                  simp only [Bool.and_eq_true, decide_eq_true_eq] at ho
                  have hon3 : 3 ≤ on := ho.1.2
                  have hon16 : on ≤ 16 := ho.1.1.1
                  obtain ⟨jn, hjn⟩ : ∃ j, on = j + 1 := ⟨on - 1, by omega⟩
                  obtain ⟨bo, oo, hA, hbo, hk2, e0, e9⟩ := sob_at (HRO.out.below HW3.out (Nat.le_refl _)) jn (by omega)
                  have htop : S.obs[jn].id = topId S.obs := by
                    have hl := HRO.out.solen
                    rw [topId, List.getLastD_eq_getLast?, List.getLast?_eq_getElem?, show S.obs.length - 1 = jn by omega, List.getElem?_eq_getElem hk2]; rfl
                  obtain ⟨top, htp⟩ : ∃ z, topId S.obs = z := ⟨_, rfl⟩
                  rw [htop, htp] at e0
                  have ho3 := HO3.out
                  rw [htp, Bool.true_and] at ho3
                  have HO5 := Lib.hid ho3
                  rw [hA] at c16
                  have HAA := Lib.hid hA
                  have hjl : jn < on := by omega
                  have k0 : IntKind.i64.wrap ((on : Int) - 1) = (jn : Int) := by rw [hjn, show ((jn + 1 : Nat) : Int) - 1 = (jn : Int) by omega]; exact IntWalk.i64_in _ ⟨by omega, by omega⟩
                  have HON3 := Lib.hid (And.intro hon3 hon16)
                  obtain ⟨tb, htb⟩ : ∃ z, ((decide (lv = 1) && decide (2 < top)) || (decide (lv = 2) && decide (127 < top))) = z := ⟨_, rfl⟩
                  have HTB := Lib.hid htb
                  have HO6 := Lib.hid (show objB S = (!tb && S.obs.all (fun o => decide (o.n ≤ 64))) by rw [HO5.out, ← htb]; cases (decide (lv = 1) && decide (2 < top)) <;> cases (decide (lv = 2) && decide (127 < top)) <;> rfl)
                  clear ho htop htp e9 ho3 hA hjn hon3 hk2 htb HO2 HO3 HO5
                  go_upto_region 18 with fail
                  go_cut [155] (fun u x => u = .bool tb ∧ Box x g (slCells S) ∧ Below w.heap.size w x)
                  case first =>
                    by_cases l1 : lv = 1
                    · subst l1
                      have htb := HTB.out
                      by_cases t1 : 2 < top
                      · have d1 : decide (2 < top) = true := by simpa using t1
                        have HZ := Lib.hid (show tb = true by rw [← htb, d1]; rfl)
                        clear htb t1
                        go_wp2_with fail
                        go_meet
                        case rel => exact ⟨by rw [HZ.out], HB3.out, HW3.out⟩
                      · have d1 : decide (2 < top) = false := by simpa using t1
                        have HZ := Lib.hid (show tb = false by rw [← htb, d1]; rfl)
                        clear htb t1
                        go_wp2_with fail
                        go_meet
                        case rel => exact ⟨by rw [HZ.out], HB3.out, HW3.out⟩
                    · have d8 : (lv == 1) = false := by simpa using l1
                      by_cases l2 : lv = 2
                      · subst l2
                        have htb := HTB.out
                        by_cases t1 : 127 < top
                        · have d1 : decide (127 < top) = true := by simpa using t1
                          have HZ := Lib.hid (show tb = true by rw [← htb, d1]; rfl)
                          clear htb t1
                          go_wp2_with fail
                          go_meet
                          case rel => exact ⟨by rw [HZ.out], HB3.out, HW3.out⟩
                        · have d1 : decide (127 < top) = false := by simpa using t1
                          have HZ := Lib.hid (show tb = false by rw [← htb, d1]; rfl)
                          clear htb t1
                          go_wp2_with fail
                          go_meet
                          case rel => exact ⟨by rw [HZ.out], HB3.out, HW3.out⟩
                      · have d7 : (lv == 2) = false := by simpa using l2
                        have HZ := Lib.hid (show tb = false by rw [← HTB.out, decide_eq_false l1, decide_eq_false l2]; rfl)
                        clear l1 l2
                        go_wp2_with fail
                        go_meet
                        case rel => exact ⟨by rw [HZ.out], HB3.out, HW3.out⟩
                  case rest =>
                    obtain ⟨rfl, hbx3, hbw3⟩ := hcut
                    clear c15 c16 c17 c18 hgl e0 HB3 HW3
                    have HB3 := Lib.hid hbx3
                    have HW3 := Lib.hid hbw3
                    clear hbx3 hbw3
                    obtain ⟨c15, c16, c17, c18⟩ := HCL.out _ HB3.out
                    have hgl := HB3.out.2.2
                    cases tb
                    rotate_left
                    · have HZ := Lib.hid (HF2.out (by rw [HO6.out]; rfl))
                      go_wp2
                      go_ret
                      exact ⟨by rw [HZ.out]; rfl, HW3.out⟩
                    · clear c15 c17 c18
                      rw [HAA.out] at c16
                      go_wp2_with fail
                      go_loopw [6] (fun i x => ∃ k : Nat, k ≤ on ∧ i = .int .i64 k ∧ (∀ o ∈ S.obs.take k, o.n ≤ 64) ∧ wc = x) (fun i _ => on - (intOf i).toNat)
                      case atStart => exact ⟨0, by omega, rfl, (by simp), by trivial⟩
                      case round =>
                        obtain ⟨k, hk, rfl, hall, rfl⟩ := hrel
                        have HALL2 := Lib.hid hall
                        clear hall
                        by_cases hlt : k < on
                        · obtain ⟨b8, o8, hA8, hbo8, hk8, f0, f9⟩ := sob_at (HRO.out.below HW3.out (Nat.le_refl _)) k hlt
                          rw [HAA.out] at hA8
                          injection hA8 with hA8
                          injection hA8 with e1 e2
                          subst e1 e2
                          obtain ⟨o, ho⟩ : ∃ o, S.obs[k] = o := ⟨_, rfl⟩
                          rw [ho] at f9
                          have hko1 : S.obs.take (k + 1) = S.obs.take k ++ [o] := by rw [List.take_succ_eq_append_getElem hk8, ho]
                          have hko2 : o ∈ S.obs := ho ▸ List.getElem_mem hk8
                          have HKO := Lib.hid (And.intro hko1 hko2)
                          have HLT2 := Lib.hid hlt
                          clear f0 ho hk8 hbo8 hko1 hko2
                          by_cases h6 : 64 < o.n
                          · have d1 : decide (64 < (o.n : Int)) = true := by simp; omega
                            have d1n : decide (64 < o.n) = true := by simp; omega
                            have HZ := Lib.hid (HF2.out (by
                              rw [HO6.out]
                              have : S.obs.all (fun o => decide (o.n ≤ 64)) = false := by
                                rw [List.all_eq_false]
                                exact ⟨_, HKO.out.2, by simp; omega⟩
                              rw [this]; rfl))
                            clear h6
                            go_wp2
                            go_ret
                            exact ⟨by rw [HZ.out]; rfl, HW3.out⟩
                          · have d1 : decide (64 < (o.n : Int)) = false := by simp; omega
                            have d1n : decide (64 < o.n) = false := by simp; omega
                            have HN := Lib.hid (show ∀ o ∈ S.obs.take (k + 1), o.n ≤ 64 from fun y hy => by
                              rw [HKO.out.1] at hy
                              rcases List.mem_append.1 hy with h | h
                              · exact HALL2.out y h
                              · rw [List.mem_singleton.1 h]; omega)
                            clear h6
                            go_wp2_with fail
                            go_roundw
                            case rel => exact ⟨k + 1, by have := HLT2.out; omega, by go_num, HN.out, by trivial⟩
                            case measure => simp [intOf]; have := HLT2.out; omega
                        · obtain rfl : k = on := by omega
                          have HZ := Lib.hid (HT2.out (by
                            rw [HO6.out, Bool.not_false, Bool.true_and, List.all_eq_true]
                            intro o ho
                            have := HALL2.out o (by rw [List.take_of_length_le (by rw [HRO.out.solen]; exact Nat.le_refl _)]; exact ho)
                            simpa using this))
                          clear hlt
                          go_wp2
                          go_ret
                          exact ⟨by rw [HZ.out]; rfl, HW3.out⟩
theorem slave_any (S : Sl) (w : World) (hok : S.ok w w.heap.size) (hs1 : ∀ k, k < 4 → (S.tb k).n ≤ 40) (hs2 : S.on_ ≤ 40) (hs3 : S.sn ≤ 80) (r : Bool) (hr : slB S = r) :
    Calls Try.prog 19 #[slV S] w fun e w' => e = .returned (.bool r) ∧ Below w.heap.size w w' := by
  by_cases h : headB S = true ∧ ∀ j, j < 4 → tbOk j (S.tb j) = true
  · by_cases h2 : midB S = false ∨ S.lv = 0
    · exact slave_good1 S w hok hs1 hs2 hs3 r hr h.1 h.2 h2
    · exact slave_good2 S w hok hs1 hs2 hs3 r hr h.1 h.2 (by cases hm : midB S with
      | false => exact absurd (.inl hm) h2
      | true => rfl) (fun h3 => h2 (.inr h3))
  · exact slave_bad S w hok hs1 hs2 hs3 r hr h
end Go.Proofs.Ytipcnpnfdoainaa

/- Layer 6: the law TimingOrder. -/
import Derived.Test.YtikhlmliefnccaaTimC
import Derived.Test.YtikhlmliefnccaaRegX
import Derived.Deep.DeepCutAuto
set_option linter.unusedVariables false
set_option linter.unusedSimpArgs false
namespace Go.Proofs.Ytikhlmliefnccaa
open Go.RowKit

theorem char_exact (b p : Int) (h : validB b p = true) : 11000000 ≤ charZ b p * b ∧ (charZ b p - 1) * b < 11000000 ∧ t15Z b p < t35Z b p ∧ 750 ≤ t15Z b p := by
  simp only [charZ, t15Z, t35Z, if_pos h]
  simp only [validB, Bool.and_eq_true, decide_eq_true_eq] at h
  have := h.1
  simp only [bauds, List.mem_cons, List.not_mem_nil, or_false] at this
  rcases this with rfl | rfl | rfl | rfl | rfl | rfl | rfl | rfl <;> decide
theorem faster (b1 p1 b2 p2 : Int) (h1 : validB b1 p1 = true) (h2 : validB b2 p2 = true) (h : b1 ≤ b2) : charZ b2 p2 ≤ charZ b1 p1 ∧ t35Z b2 p2 ≤ t35Z b1 p1 ∧ t15Z b2 p2 ≤ t15Z b1 p1 := by
  simp only [charZ, t15Z, t35Z, if_pos h1, if_pos h2]
  simp only [validB, Bool.and_eq_true, decide_eq_true_eq] at h1 h2
  have k1 := h1.1
  have k2 := h2.1
  have hd : ∀ b1 ∈ bauds, ∀ b2 ∈ bauds, b1 ≤ b2 → upZ 11000000 b2 ≤ upZ 11000000 b1 ∧ (if 19200 < b2 then 1750 else upZ 38500000 b2) ≤ (if 19200 < b1 then 1750 else upZ 38500000 b1) ∧ (if 19200 < b2 then (750 : Int) else upZ 16500000 b2) ≤ (if 19200 < b1 then 750 else upZ 16500000 b1) := by decide
  exact hd b1 k1 b2 k2 h

set_option maxRecDepth 100000 in
set_option maxHeartbeats 8000000 in
theorem lawOrder_any (j0 k0 : Int) (w : World) :
    Calls Try.prog 4 #[.int .i64 j0, .int .i64 k0] w fun e w' => e = .returned (.bool true) ∧ Below w.heap.size w w' := by
  obtain ⟨j, hj, hm⟩ := all_in j0
  have hM := fun w => mod_any j0 24 (by omega) (by omega) w
  rw [hm] at hM
  have HM := Lib.hid hM; clear hM hm
  obtain ⟨k, hk, hm⟩ := all_in k0
  have hM := fun w => mod_any k0 24 (by omega) (by omega) w
  rw [hm] at hM
  have HM2 := Lib.hid hM; clear hM hm
  have hlj : j < allL.length := by rw [all_length]; exact hj
  have hlk : k < allL.length := by rw [all_length]; exact hk
  have hval := validAll j hlj
  have hval2 := validAll k hlk
  obtain ⟨e0, e1⟩ := st_get0 allL j hlj
  obtain ⟨d0, d1⟩ := st_get0 allL k hlk
  obtain ⟨b, hb⟩ : ∃ b, (allL[j]).1 = b := ⟨_, rfl⟩
  obtain ⟨p, hp⟩ : ∃ p, (allL[j]).2 = p := ⟨_, rfl⟩
  obtain ⟨b2, hb2⟩ : ∃ b, (allL[k]).1 = b := ⟨_, rfl⟩
  obtain ⟨p2, hp2⟩ : ∃ p, (allL[k]).2 = p := ⟨_, rfl⟩
  rw [hb] at e0 hval
  rw [hp] at e1 hval
  rw [hb2] at d0 hval2
  rw [hp2] at d1 hval2
  have E0 := Lib.hid e0; have E1 := Lib.hid e1
  have D0 := Lib.hid d0; have D1 := Lib.hid d1
  clear hb hp e0 e1 hb2 hp2 d0 d1
  have hj1 : (j : Int) < 24 := by omega
  have hk1 : (k : Int) < 24 := by omega
  obtain ⟨x1, x2, x3, x4⟩ := char_exact b p hval
  have hfst := faster b p b2 p2 hval hval2
  have hcb := char_bd b p
  have hbb := baud_pos hval
  obtain ⟨c, hc⟩ : ∃ z, charZ b p = z := ⟨_, rfl⟩
  obtain ⟨u, hu⟩ : ∃ z, t35Z b p = z := ⟨_, rfl⟩
  obtain ⟨t, ht⟩ : ∃ z, t15Z b p = z := ⟨_, rfl⟩
  obtain ⟨c2, hc2⟩ : ∃ z, charZ b2 p2 = z := ⟨_, rfl⟩
  obtain ⟨u2, hu2⟩ : ∃ z, t35Z b2 p2 = z := ⟨_, rfl⟩
  obtain ⟨t2, ht2⟩ : ∃ z, t15Z b2 p2 = z := ⟨_, rfl⟩
  have HC := Lib.hid (fun w => char_eq b p c hc w)
  have HU := Lib.hid (fun w => t35_eq b p u hu w)
  have HT := Lib.hid (fun w => t15_eq b p t ht w)
  have HC2 := Lib.hid (fun w => char_eq b2 p2 c2 hc2 w)
  have HU2 := Lib.hid (fun w => t35_eq b2 p2 u2 hu2 w)
  have HT2 := Lib.hid (fun w => t15_eq b2 p2 t2 ht2 w)
  rw [hc] at x1 x2 hcb
  rw [hu] at x3
  rw [ht] at x3 x4
  rw [hc, hc2, hu, hu2, ht, ht2] at hfst
  have hcm : c * b ≤ 9167 * 115200 := Int.mul_le_mul hcb.2 hbb.2 (by omega) (by omega)
  have HX1 := Lib.hid x1
  have HX2 := Lib.hid x2
  have HX3 := Lib.hid x3
  have HX4 := Lib.hid x4
  have HFS := Lib.hid hfst
  have HCM := Lib.hid hcm
  have HCB := Lib.hid hcb
  have HBB := Lib.hid hbb
  clear hc hu ht hc2 hu2 ht2 hval hval2 x1 x2 x3 x4 hfst hcm hcb hbb
  go_enter Try.func4, Try.ntmps4
  go_upto_region 1 with fail
  go_cut [5, 6] (fun v5 v6 x => ∃ g5 g6 : Nat, v5 = .pointer (some ⟨g5, 0, none⟩) ∧ v6 = .pointer (some ⟨g6, 0, none⟩) ∧ Box x g5 #[.int .i64 b, .int .i64 p] ∧ Box x g6 #[.int .i64 b2, .int .i64 p2] ∧ Below w.heap.size w x)
  case first =>
    have hbw : Below w.heap.size w w.drew := below_drew (Below.refl _ _)
    refine rgx_start (by kernel_rfl) ?_
    revert hbw
    generalize w.drew = w0
    intro hbw
    refine rgx_t (v := ?_) (some 9) 1 (by kernel_rfl) rfl rfl (.inl ⟨by rfl, fun w' q => ?_⟩) ?_
    rotate_left
    · go_simp <;> with_reducible rfl
    try simp only [Act.put, List.setIfInBounds_toArray, List.set_cons_zero, List.set_cons_succ]
    refine rgx_t (v := ?_) (some 14) 6 (by kernel_rfl) rfl rfl (.inl ⟨by rfl, fun w' q => ?_⟩) ?_
    rotate_left
    · go_simp <;> with_reducible rfl
    try simp only [Act.put, List.setIfInBounds_toArray, List.set_cons_zero, List.set_cons_succ]
    refine rgx_3 0 10 11 (by kernel_rfl) ?_ ?_ ?_
    · refine ⟨_, rfl, by rfl, fun K hK => ?_⟩
      go_simp
      refine (all_any _).mono ?_
      rintro e x1 ⟨A1, cc, rfl, hown, hb⟩
      obtain ⟨g1, o1, rfl, hg1, hc⟩ := (Rd.of_own hown).2 (by omega)
      have c1 := hc _ _ E0.out
      have c2 := hc _ _ E1.out
      rw [← Nat.add_assoc] at c2
      have hn1 : ∀ q, q < w0.heap.size → g1 ≠ q := fun q hq e => by have := (hown.lt g1 rfl).1; omega
      have hbw := ext_trans hbw hb
      try have k5 := hn1 _ l5
      try have k6 := hn1 _ l6
      try have HB5 := Lib.hid (HB5.out.below hb)
      try have HB6 := Lib.hid (HB6.out.below hb)
      try have l5 := HB5.out.2.2
      try have l6 := HB6.out.2.2
      refine hK (fun b => False) _ _ (fun b h => .inl h) (Mem.of_below hb) ?_
      clear hb hown hc hn1
      clear hK K
      try simp only [Act.put, List.setIfInBounds_toArray, List.set_cons_zero, List.set_cons_succ]
      refine rgx_q (v := ?_) (some 10) 2 (by kernel_rfl) rfl rfl (by rfl) (fun w' hw K hK => ?_) ?_
      rotate_left
      · go_simp
        refine (HM.out _).mono ?_
        rintro e w1 ⟨rfl, rfl⟩
        exact hK
      try simp only [Act.put, List.setIfInBounds_toArray, List.set_cons_zero, List.set_cons_succ]
      refine rgx_t (v := ?_) (some 11) 3 (by kernel_rfl) rfl rfl (.inl ⟨by rfl, fun w' q => ?_⟩) ?_
      rotate_left
      · go_simp <;> with_reducible rfl
      try simp only [Act.put, List.setIfInBounds_toArray, List.set_cons_zero, List.set_cons_succ]
      refine rgx_t (v := ?_) (some 12) 4 (by kernel_rfl) rfl rfl (.inl ⟨by rfl, fun w' q => ?_⟩) ?_
      rotate_left
      · go_simp <;> with_reducible rfl
      try simp only [Act.put, List.setIfInBounds_toArray, List.set_cons_zero, List.set_cons_succ]
      refine rgx_3 5 10 11 (by kernel_rfl) ?_ ?_ ?_
      · refine ⟨_, rfl, by rfl, fun K hK => ?_⟩
        go_simp
        refine (all_any _).mono ?_
        rintro e x2 ⟨A1, cc, rfl, hown, hb⟩
        obtain ⟨g2, o2, rfl, hg1, hc⟩ := (Rd.of_own hown).2 (by omega)
        have c1 := hc _ _ D0.out
        have c2 := hc _ _ D1.out
        rw [← Nat.add_assoc] at c2
        have hn1 : ∀ q, q < x1.heap.size → g2 ≠ q := fun q hq e => by have := (hown.lt g2 rfl).1; omega
        have hbw := ext_trans hbw hb
        try have k5 := hn1 _ l5
        try have k6 := hn1 _ l6
        try have HB5 := Lib.hid (HB5.out.below hb)
        try have HB6 := Lib.hid (HB6.out.below hb)
        try have l5 := HB5.out.2.2
        try have l6 := HB6.out.2.2
        refine hK (fun b => False) _ _ (fun b h => .inl h) (Mem.of_below hb) ?_
        clear hb hown hc hn1
        clear hK K
        try simp only [Act.put, List.setIfInBounds_toArray, List.set_cons_zero, List.set_cons_succ]
        refine rgx_q (v := ?_) (some 15) 7 (by kernel_rfl) rfl rfl (by rfl) (fun w' hw K hK => ?_) ?_
        rotate_left
        · go_simp
          refine (HM2.out _).mono ?_
          rintro e w1 ⟨rfl, rfl⟩
          exact hK
        try simp only [Act.put, List.setIfInBounds_toArray, List.set_cons_zero, List.set_cons_succ]
        refine rgx_t (v := ?_) (some 16) 8 (by kernel_rfl) rfl rfl (.inl ⟨by rfl, fun w' q => ?_⟩) ?_
        rotate_left
        · go_simp <;> with_reducible rfl
        try simp only [Act.put, List.setIfInBounds_toArray, List.set_cons_zero, List.set_cons_succ]
        refine rgx_t (v := ?_) (some 17) 9 (by kernel_rfl) rfl rfl (.inl ⟨by rfl, fun w' q => ?_⟩) ?_
        rotate_left
        · go_simp <;> with_reducible rfl
        try simp only [Act.put, List.setIfInBounds_toArray, List.set_cons_zero, List.set_cons_succ]
        refine rgx_2 10 11 (by kernel_rfl) ?_ ?_
        · refine ⟨_, rfl, by rfl, fun K hK => ?_⟩
          go_simp
          obtain ⟨g5, hg⟩ : ∃ g, x2.heap.size = g := ⟨_, rfl⟩
          obtain ⟨x3, hW⟩ : ∃ W, x2.alloc (.cells #[.int .i64 0, .int .i64 0] 23) = W := ⟨_, rfl⟩
          have hb : Below x2.heap.size x2 x3 := hW ▸ (Below.refl _ _).alloc (Nat.le_refl _) _
          have HB5 := Lib.hid (show Box x3 g5 #[.int .i64 0, .int .i64 0] from hW ▸ hg ▸ Box.alloc_)
          rw [hW, hg]
          have m5 : w.heap.size ≤ g5 := hg ▸ hbw.size
          have hbw := ext_trans hbw hb
          try have h56 : g5 ≠ g6 := by omega
          try have HB6 := Lib.hid (HB6.out.below hb)
          try have l6 := HB6.out.2.2
          have l5 := HB5.out.2.2
          refine hK (fun b => False ∨ b = g5) _ _ (fun b h => by simp only [false_or] at h ⊢; omega) (Mem.of_below hb) ?_
          clear hb hW hg
          clear hK K
          try simp only [Act.put, List.setIfInBounds_toArray, List.set_cons_zero, List.set_cons_succ]
          refine rgx_1 11 (by kernel_rfl) ?_
          refine ⟨_, rfl, by rfl, fun K hK => ?_⟩
          go_simp
          obtain ⟨g6, hg⟩ : ∃ g, x3.heap.size = g := ⟨_, rfl⟩
          obtain ⟨x4, hW⟩ : ∃ W, x3.alloc (.cells #[.int .i64 0, .int .i64 0] 23) = W := ⟨_, rfl⟩
          have hb : Below x3.heap.size x3 x4 := hW ▸ (Below.refl _ _).alloc (Nat.le_refl _) _
          have HB6 := Lib.hid (show Box x4 g6 #[.int .i64 0, .int .i64 0] from hW ▸ hg ▸ Box.alloc_)
          rw [hW, hg]
          have m6 : w.heap.size ≤ g6 := hg ▸ hbw.size
          have hbw := ext_trans hbw hb
          try have h56 : g5 ≠ g6 := by omega
          try have HB5 := Lib.hid (HB5.out.below hb)
          try have l5 := HB5.out.2.2
          have l6 := HB6.out.2.2
          refine hK (fun b => False ∨ b = g5 ∨ b = g6) _ _ (fun b h => by simp only [false_or] at h ⊢; omega) (Mem.of_below hb) ?_
          clear hb hW hg
          clear hK K
          try simp only [Act.put, List.setIfInBounds_toArray, List.set_cons_zero, List.set_cons_succ]
          refine rgx_1 12 (by kernel_rfl) ?_
          refine ⟨_, rfl, by rfl, fun K hK => ?_⟩
          obtain ⟨q5, z5, y5⟩ := HB5.out
          go_simp
          have hB := ((HB5.out.set (k := 0) (v := .int .i64 b) (cs' := #[.int .i64 b, .int .i64 0]) (by simp) rfl).set (k := 1) (v := .int .i64 p) (cs' := #[.int .i64 b, .int .i64 p]) (by simp) rfl)
          have hg := one_set (one_set (one_refl x4 g5) 0 (.int .i64 b)) 1 (.int .i64 p)
          have hm : Mem (fun b => False ∨ b = g5 ∨ b = g6) x4 ((x4.setCell ⟨g5, 0, none⟩ (.int .i64 b)).setCell ⟨g5, 1, none⟩ (.int .i64 p)) := ((Mem.refl _ _).of_set (by simp)).of_set (by simp)
          have hbw := (hbw.setCell (p := ⟨g5, 0, none⟩) m5 (.int .i64 b)).setCell (p := ⟨g5, 1, none⟩) m5 (.int .i64 p)
          try have HB6 := Lib.hid (HB6.out.grown hg (Ne.symm h56))
          obtain ⟨x5, hW⟩ : ∃ W, ((x4.setCell ⟨g5, 0, none⟩ (.int .i64 b)).setCell ⟨g5, 1, none⟩ (.int .i64 p)) = W := ⟨_, rfl⟩
          rw [hW] at hm hbw hB ⊢
          try rw [hW] at HB6
          have HB5 := Lib.hid hB
          try have l6 := HB6.out.2.2
          have l5 := HB5.out.2.2
          refine hK (fun b => False ∨ b = g5 ∨ b = g6) _ _ (fun b h => .inl h) hm ?_
          clear hm hW hg hB q5 z5 y5
          clear hK K
          try simp only [Act.put, List.setIfInBounds_toArray, List.set_cons_zero, List.set_cons_succ]
          refine rgx_1 13 (by kernel_rfl) ?_
          refine ⟨_, rfl, by rfl, fun K hK => ?_⟩
          obtain ⟨q5, z5, y5⟩ := HB6.out
          go_simp
          have hB := ((HB6.out.set (k := 0) (v := .int .i64 b2) (cs' := #[.int .i64 b2, .int .i64 0]) (by simp) rfl).set (k := 1) (v := .int .i64 p2) (cs' := #[.int .i64 b2, .int .i64 p2]) (by simp) rfl)
          have hg := one_set (one_set (one_refl x5 g6) 0 (.int .i64 b2)) 1 (.int .i64 p2)
          have hm : Mem (fun b => False ∨ b = g5 ∨ b = g6) x5 ((x5.setCell ⟨g6, 0, none⟩ (.int .i64 b2)).setCell ⟨g6, 1, none⟩ (.int .i64 p2)) := ((Mem.refl _ _).of_set (by simp)).of_set (by simp)
          have hbw := (hbw.setCell (p := ⟨g6, 0, none⟩) m6 (.int .i64 b2)).setCell (p := ⟨g6, 1, none⟩) m6 (.int .i64 p2)
          try have HB5 := Lib.hid (HB5.out.grown hg h56)
          obtain ⟨x6, hW⟩ : ∃ W, ((x5.setCell ⟨g6, 0, none⟩ (.int .i64 b2)).setCell ⟨g6, 1, none⟩ (.int .i64 p2)) = W := ⟨_, rfl⟩
          rw [hW] at hm hbw hB ⊢
          try rw [hW] at HB5
          have HB6 := Lib.hid hB
          try have l5 := HB5.out.2.2
          have l6 := HB6.out.2.2
          refine hK (fun b => False ∨ b = g5 ∨ b = g6) _ _ (fun b h => .inl h) hm ?_
          clear hm hW hg hB q5 z5 y5
          clear hK K
          try simp only [Act.put, List.setIfInBounds_toArray, List.set_cons_zero, List.set_cons_succ]
          refine rgx_d (by kernel_rfl) ?_
          go_wp2_with fail
          go_meet
          case rel => exact ⟨g5, g6, rfl, rfl, HB5.out, HB6.out, hbw⟩
        · refine ⟨_, rfl, by rfl, fun K hK => ?_⟩
          go_simp
          obtain ⟨g6, hg⟩ : ∃ g, x2.heap.size = g := ⟨_, rfl⟩
          obtain ⟨x3, hW⟩ : ∃ W, x2.alloc (.cells #[.int .i64 0, .int .i64 0] 23) = W := ⟨_, rfl⟩
          have hb : Below x2.heap.size x2 x3 := hW ▸ (Below.refl _ _).alloc (Nat.le_refl _) _
          have HB6 := Lib.hid (show Box x3 g6 #[.int .i64 0, .int .i64 0] from hW ▸ hg ▸ Box.alloc_)
          rw [hW, hg]
          have m6 : w.heap.size ≤ g6 := hg ▸ hbw.size
          have hbw := ext_trans hbw hb
          try have h56 : g5 ≠ g6 := by omega
          try have HB5 := Lib.hid (HB5.out.below hb)
          try have l5 := HB5.out.2.2
          have l6 := HB6.out.2.2
          refine hK (fun b => False ∨ b = g6) _ _ (fun b h => by simp only [false_or] at h ⊢; omega) (Mem.of_below hb) ?_
          clear hb hW hg
          clear hK K
          try simp only [Act.put, List.setIfInBounds_toArray, List.set_cons_zero, List.set_cons_succ]
          refine rgx_1 10 (by kernel_rfl) ?_
          refine ⟨_, rfl, by rfl, fun K hK => ?_⟩
          go_simp
          obtain ⟨g5, hg⟩ : ∃ g, x3.heap.size = g := ⟨_, rfl⟩
          obtain ⟨x4, hW⟩ : ∃ W, x3.alloc (.cells #[.int .i64 0, .int .i64 0] 23) = W := ⟨_, rfl⟩
          have hb : Below x3.heap.size x3 x4 := hW ▸ (Below.refl _ _).alloc (Nat.le_refl _) _
          have HB5 := Lib.hid (show Box x4 g5 #[.int .i64 0, .int .i64 0] from hW ▸ hg ▸ Box.alloc_)
          rw [hW, hg]
          have m5 : w.heap.size ≤ g5 := hg ▸ hbw.size
          have hbw := ext_trans hbw hb
          try have h56 : g5 ≠ g6 := by omega
          try have HB6 := Lib.hid (HB6.out.below hb)
          try have l6 := HB6.out.2.2
          have l5 := HB5.out.2.2
          refine hK (fun b => False ∨ b = g6 ∨ b = g5) _ _ (fun b h => by simp only [false_or] at h ⊢; omega) (Mem.of_below hb) ?_
          clear hb hW hg
          clear hK K
          try simp only [Act.put, List.setIfInBounds_toArray, List.set_cons_zero, List.set_cons_succ]
          refine rgx_1 12 (by kernel_rfl) ?_
          refine ⟨_, rfl, by rfl, fun K hK => ?_⟩
          obtain ⟨q5, z5, y5⟩ := HB5.out
          go_simp
          have hB := ((HB5.out.set (k := 0) (v := .int .i64 b) (cs' := #[.int .i64 b, .int .i64 0]) (by simp) rfl).set (k := 1) (v := .int .i64 p) (cs' := #[.int .i64 b, .int .i64 p]) (by simp) rfl)
          have hg := one_set (one_set (one_refl x4 g5) 0 (.int .i64 b)) 1 (.int .i64 p)
          have hm : Mem (fun b => False ∨ b = g6 ∨ b = g5) x4 ((x4.setCell ⟨g5, 0, none⟩ (.int .i64 b)).setCell ⟨g5, 1, none⟩ (.int .i64 p)) := ((Mem.refl _ _).of_set (by simp)).of_set (by simp)
          have hbw := (hbw.setCell (p := ⟨g5, 0, none⟩) m5 (.int .i64 b)).setCell (p := ⟨g5, 1, none⟩) m5 (.int .i64 p)
          try have HB6 := Lib.hid (HB6.out.grown hg (Ne.symm h56))
          obtain ⟨x5, hW⟩ : ∃ W, ((x4.setCell ⟨g5, 0, none⟩ (.int .i64 b)).setCell ⟨g5, 1, none⟩ (.int .i64 p)) = W := ⟨_, rfl⟩
          rw [hW] at hm hbw hB ⊢
          try rw [hW] at HB6
          have HB5 := Lib.hid hB
          try have l6 := HB6.out.2.2
          have l5 := HB5.out.2.2
          refine hK (fun b => False ∨ b = g6 ∨ b = g5) _ _ (fun b h => .inl h) hm ?_
          clear hm hW hg hB q5 z5 y5
          clear hK K
          try simp only [Act.put, List.setIfInBounds_toArray, List.set_cons_zero, List.set_cons_succ]
          refine rgx_1 13 (by kernel_rfl) ?_
          refine ⟨_, rfl, by rfl, fun K hK => ?_⟩
          obtain ⟨q5, z5, y5⟩ := HB6.out
          go_simp
          have hB := ((HB6.out.set (k := 0) (v := .int .i64 b2) (cs' := #[.int .i64 b2, .int .i64 0]) (by simp) rfl).set (k := 1) (v := .int .i64 p2) (cs' := #[.int .i64 b2, .int .i64 p2]) (by simp) rfl)
          have hg := one_set (one_set (one_refl x5 g6) 0 (.int .i64 b2)) 1 (.int .i64 p2)
          have hm : Mem (fun b => False ∨ b = g6 ∨ b = g5) x5 ((x5.setCell ⟨g6, 0, none⟩ (.int .i64 b2)).setCell ⟨g6, 1, none⟩ (.int .i64 p2)) := ((Mem.refl _ _).of_set (by simp)).of_set (by simp)
          have hbw := (hbw.setCell (p := ⟨g6, 0, none⟩) m6 (.int .i64 b2)).setCell (p := ⟨g6, 1, none⟩) m6 (.int .i64 p2)
          try have HB5 := Lib.hid (HB5.out.grown hg h56)
          obtain ⟨x6, hW⟩ : ∃ W, ((x5.setCell ⟨g6, 0, none⟩ (.int .i64 b2)).setCell ⟨g6, 1, none⟩ (.int .i64 p2)) = W := ⟨_, rfl⟩
          rw [hW] at hm hbw hB ⊢
          try rw [hW] at HB5
          have HB6 := Lib.hid hB
          try have l5 := HB5.out.2.2
          have l6 := HB6.out.2.2
          refine hK (fun b => False ∨ b = g6 ∨ b = g5) _ _ (fun b h => .inl h) hm ?_
          clear hm hW hg hB q5 z5 y5
          clear hK K
          try simp only [Act.put, List.setIfInBounds_toArray, List.set_cons_zero, List.set_cons_succ]
          refine rgx_d (by kernel_rfl) ?_
          go_wp2_with fail
          go_meet
          case rel => exact ⟨g5, g6, rfl, rfl, HB5.out, HB6.out, hbw⟩
      · refine ⟨_, rfl, by rfl, fun K hK => ?_⟩
        go_simp
        obtain ⟨g5, hg⟩ : ∃ g, x1.heap.size = g := ⟨_, rfl⟩
        obtain ⟨x2, hW⟩ : ∃ W, x1.alloc (.cells #[.int .i64 0, .int .i64 0] 23) = W := ⟨_, rfl⟩
        have hb : Below x1.heap.size x1 x2 := hW ▸ (Below.refl _ _).alloc (Nat.le_refl _) _
        have HB5 := Lib.hid (show Box x2 g5 #[.int .i64 0, .int .i64 0] from hW ▸ hg ▸ Box.alloc_)
        rw [hW, hg]
        have m5 : w.heap.size ≤ g5 := hg ▸ hbw.size
        have hbw := ext_trans hbw hb
        try have h56 : g5 ≠ g6 := by omega
        try have HB6 := Lib.hid (HB6.out.below hb)
        try have l6 := HB6.out.2.2
        have l5 := HB5.out.2.2
        refine hK (fun b => False ∨ b = g5) _ _ (fun b h => by simp only [false_or] at h ⊢; omega) (Mem.of_below hb) ?_
        clear hb hW hg
        clear hK K
        try simp only [Act.put, List.setIfInBounds_toArray, List.set_cons_zero, List.set_cons_succ]
        refine rgx_2 5 11 (by kernel_rfl) ?_ ?_
        · refine ⟨_, rfl, by rfl, fun K hK => ?_⟩
          go_simp
          refine (all_any _).mono ?_
          rintro e x3 ⟨A1, cc, rfl, hown, hb⟩
          obtain ⟨g2, o2, rfl, hg1, hc⟩ := (Rd.of_own hown).2 (by omega)
          have c1 := hc _ _ D0.out
          have c2 := hc _ _ D1.out
          rw [← Nat.add_assoc] at c2
          have hn1 : ∀ q, q < x2.heap.size → g2 ≠ q := fun q hq e => by have := (hown.lt g2 rfl).1; omega
          have hbw := ext_trans hbw hb
          try have k5 := hn1 _ l5
          try have k6 := hn1 _ l6
          try have HB5 := Lib.hid (HB5.out.below hb)
          try have HB6 := Lib.hid (HB6.out.below hb)
          try have l5 := HB5.out.2.2
          try have l6 := HB6.out.2.2
          refine hK (fun b => False ∨ b = g5) _ _ (fun b h => .inl h) (Mem.of_below hb) ?_
          clear hb hown hc hn1
          clear hK K
          try simp only [Act.put, List.setIfInBounds_toArray, List.set_cons_zero, List.set_cons_succ]
          refine rgx_q (v := ?_) (some 15) 7 (by kernel_rfl) rfl rfl (by rfl) (fun w' hw K hK => ?_) ?_
          rotate_left
          · go_simp
            refine (HM2.out _).mono ?_
            rintro e w1 ⟨rfl, rfl⟩
            exact hK
          try simp only [Act.put, List.setIfInBounds_toArray, List.set_cons_zero, List.set_cons_succ]
          refine rgx_t (v := ?_) (some 16) 8 (by kernel_rfl) rfl rfl (.inl ⟨by rfl, fun w' q => ?_⟩) ?_
          rotate_left
          · go_simp <;> with_reducible rfl
          try simp only [Act.put, List.setIfInBounds_toArray, List.set_cons_zero, List.set_cons_succ]
          refine rgx_t (v := ?_) (some 17) 9 (by kernel_rfl) rfl rfl (.inl ⟨by rfl, fun w' q => ?_⟩) ?_
          rotate_left
          · go_simp <;> with_reducible rfl
          try simp only [Act.put, List.setIfInBounds_toArray, List.set_cons_zero, List.set_cons_succ]
          refine rgx_1 11 (by kernel_rfl) ?_
          refine ⟨_, rfl, by rfl, fun K hK => ?_⟩
          go_simp
          obtain ⟨g6, hg⟩ : ∃ g, x3.heap.size = g := ⟨_, rfl⟩
          obtain ⟨x4, hW⟩ : ∃ W, x3.alloc (.cells #[.int .i64 0, .int .i64 0] 23) = W := ⟨_, rfl⟩
          have hb : Below x3.heap.size x3 x4 := hW ▸ (Below.refl _ _).alloc (Nat.le_refl _) _
          have HB6 := Lib.hid (show Box x4 g6 #[.int .i64 0, .int .i64 0] from hW ▸ hg ▸ Box.alloc_)
          rw [hW, hg]
          have m6 : w.heap.size ≤ g6 := hg ▸ hbw.size
          have hbw := ext_trans hbw hb
          try have h56 : g5 ≠ g6 := by omega
          try have HB5 := Lib.hid (HB5.out.below hb)
          try have l5 := HB5.out.2.2
          have l6 := HB6.out.2.2
          refine hK (fun b => False ∨ b = g5 ∨ b = g6) _ _ (fun b h => by simp only [false_or] at h ⊢; omega) (Mem.of_below hb) ?_
          clear hb hW hg
          clear hK K
          try simp only [Act.put, List.setIfInBounds_toArray, List.set_cons_zero, List.set_cons_succ]
          refine rgx_1 12 (by kernel_rfl) ?_
          refine ⟨_, rfl, by rfl, fun K hK => ?_⟩
          obtain ⟨q5, z5, y5⟩ := HB5.out
          go_simp
          have hB := ((HB5.out.set (k := 0) (v := .int .i64 b) (cs' := #[.int .i64 b, .int .i64 0]) (by simp) rfl).set (k := 1) (v := .int .i64 p) (cs' := #[.int .i64 b, .int .i64 p]) (by simp) rfl)
          have hg := one_set (one_set (one_refl x4 g5) 0 (.int .i64 b)) 1 (.int .i64 p)
          have hm : Mem (fun b => False ∨ b = g5 ∨ b = g6) x4 ((x4.setCell ⟨g5, 0, none⟩ (.int .i64 b)).setCell ⟨g5, 1, none⟩ (.int .i64 p)) := ((Mem.refl _ _).of_set (by simp)).of_set (by simp)
          have hbw := (hbw.setCell (p := ⟨g5, 0, none⟩) m5 (.int .i64 b)).setCell (p := ⟨g5, 1, none⟩) m5 (.int .i64 p)
          try have HB6 := Lib.hid (HB6.out.grown hg (Ne.symm h56))
          obtain ⟨x5, hW⟩ : ∃ W, ((x4.setCell ⟨g5, 0, none⟩ (.int .i64 b)).setCell ⟨g5, 1, none⟩ (.int .i64 p)) = W := ⟨_, rfl⟩
          rw [hW] at hm hbw hB ⊢
          try rw [hW] at HB6
          have HB5 := Lib.hid hB
          try have l6 := HB6.out.2.2
          have l5 := HB5.out.2.2
          refine hK (fun b => False ∨ b = g5 ∨ b = g6) _ _ (fun b h => .inl h) hm ?_
          clear hm hW hg hB q5 z5 y5
          clear hK K
          try simp only [Act.put, List.setIfInBounds_toArray, List.set_cons_zero, List.set_cons_succ]
          refine rgx_1 13 (by kernel_rfl) ?_
          refine ⟨_, rfl, by rfl, fun K hK => ?_⟩
          obtain ⟨q5, z5, y5⟩ := HB6.out
          go_simp
          have hB := ((HB6.out.set (k := 0) (v := .int .i64 b2) (cs' := #[.int .i64 b2, .int .i64 0]) (by simp) rfl).set (k := 1) (v := .int .i64 p2) (cs' := #[.int .i64 b2, .int .i64 p2]) (by simp) rfl)
          have hg := one_set (one_set (one_refl x5 g6) 0 (.int .i64 b2)) 1 (.int .i64 p2)
          have hm : Mem (fun b => False ∨ b = g5 ∨ b = g6) x5 ((x5.setCell ⟨g6, 0, none⟩ (.int .i64 b2)).setCell ⟨g6, 1, none⟩ (.int .i64 p2)) := ((Mem.refl _ _).of_set (by simp)).of_set (by simp)
          have hbw := (hbw.setCell (p := ⟨g6, 0, none⟩) m6 (.int .i64 b2)).setCell (p := ⟨g6, 1, none⟩) m6 (.int .i64 p2)
          try have HB5 := Lib.hid (HB5.out.grown hg h56)
          obtain ⟨x6, hW⟩ : ∃ W, ((x5.setCell ⟨g6, 0, none⟩ (.int .i64 b2)).setCell ⟨g6, 1, none⟩ (.int .i64 p2)) = W := ⟨_, rfl⟩
          rw [hW] at hm hbw hB ⊢
          try rw [hW] at HB5
          have HB6 := Lib.hid hB
          try have l5 := HB5.out.2.2
          have l6 := HB6.out.2.2
          refine hK (fun b => False ∨ b = g5 ∨ b = g6) _ _ (fun b h => .inl h) hm ?_
          clear hm hW hg hB q5 z5 y5
          clear hK K
          try simp only [Act.put, List.setIfInBounds_toArray, List.set_cons_zero, List.set_cons_succ]
          refine rgx_d (by kernel_rfl) ?_
          go_wp2_with fail
          go_meet
          case rel => exact ⟨g5, g6, rfl, rfl, HB5.out, HB6.out, hbw⟩
        · refine ⟨_, rfl, by rfl, fun K hK => ?_⟩
          go_simp
          obtain ⟨g6, hg⟩ : ∃ g, x2.heap.size = g := ⟨_, rfl⟩
          obtain ⟨x3, hW⟩ : ∃ W, x2.alloc (.cells #[.int .i64 0, .int .i64 0] 23) = W := ⟨_, rfl⟩
          have hb : Below x2.heap.size x2 x3 := hW ▸ (Below.refl _ _).alloc (Nat.le_refl _) _
          have HB6 := Lib.hid (show Box x3 g6 #[.int .i64 0, .int .i64 0] from hW ▸ hg ▸ Box.alloc_)
          rw [hW, hg]
          have m6 : w.heap.size ≤ g6 := hg ▸ hbw.size
          have hbw := ext_trans hbw hb
          try have h56 : g5 ≠ g6 := by omega
          try have HB5 := Lib.hid (HB5.out.below hb)
          try have l5 := HB5.out.2.2
          have l6 := HB6.out.2.2
          refine hK (fun b => False ∨ b = g5 ∨ b = g6) _ _ (fun b h => by simp only [false_or] at h ⊢; omega) (Mem.of_below hb) ?_
          clear hb hW hg
          clear hK K
          try simp only [Act.put, List.setIfInBounds_toArray, List.set_cons_zero, List.set_cons_succ]
          refine rgx_1 5 (by kernel_rfl) ?_
          refine ⟨_, rfl, by rfl, fun K hK => ?_⟩
          go_simp
          refine (all_any _).mono ?_
          rintro e x4 ⟨A1, cc, rfl, hown, hb⟩
          obtain ⟨g2, o2, rfl, hg1, hc⟩ := (Rd.of_own hown).2 (by omega)
          have c1 := hc _ _ D0.out
          have c2 := hc _ _ D1.out
          rw [← Nat.add_assoc] at c2
          have hn1 : ∀ q, q < x3.heap.size → g2 ≠ q := fun q hq e => by have := (hown.lt g2 rfl).1; omega
          have hbw := ext_trans hbw hb
          try have k5 := hn1 _ l5
          try have k6 := hn1 _ l6
          try have HB5 := Lib.hid (HB5.out.below hb)
          try have HB6 := Lib.hid (HB6.out.below hb)
          try have l5 := HB5.out.2.2
          try have l6 := HB6.out.2.2
          refine hK (fun b => False ∨ b = g5 ∨ b = g6) _ _ (fun b h => .inl h) (Mem.of_below hb) ?_
          clear hb hown hc hn1
          clear hK K
          try simp only [Act.put, List.setIfInBounds_toArray, List.set_cons_zero, List.set_cons_succ]
          refine rgx_q (v := ?_) (some 15) 7 (by kernel_rfl) rfl rfl (by rfl) (fun w' hw K hK => ?_) ?_
          rotate_left
          · go_simp
            refine (HM2.out _).mono ?_
            rintro e w1 ⟨rfl, rfl⟩
            exact hK
          try simp only [Act.put, List.setIfInBounds_toArray, List.set_cons_zero, List.set_cons_succ]
          refine rgx_t (v := ?_) (some 16) 8 (by kernel_rfl) rfl rfl (.inl ⟨by rfl, fun w' q => ?_⟩) ?_
          rotate_left
          · go_simp <;> with_reducible rfl
          try simp only [Act.put, List.setIfInBounds_toArray, List.set_cons_zero, List.set_cons_succ]
          refine rgx_t (v := ?_) (some 17) 9 (by kernel_rfl) rfl rfl (.inl ⟨by rfl, fun w' q => ?_⟩) ?_
          rotate_left
          · go_simp <;> with_reducible rfl
          try simp only [Act.put, List.setIfInBounds_toArray, List.set_cons_zero, List.set_cons_succ]
          refine rgx_1 12 (by kernel_rfl) ?_
          refine ⟨_, rfl, by rfl, fun K hK => ?_⟩
          obtain ⟨q5, z5, y5⟩ := HB5.out
          go_simp
          have hB := ((HB5.out.set (k := 0) (v := .int .i64 b) (cs' := #[.int .i64 b, .int .i64 0]) (by simp) rfl).set (k := 1) (v := .int .i64 p) (cs' := #[.int .i64 b, .int .i64 p]) (by simp) rfl)
          have hg := one_set (one_set (one_refl x4 g5) 0 (.int .i64 b)) 1 (.int .i64 p)
          have hm : Mem (fun b => False ∨ b = g5 ∨ b = g6) x4 ((x4.setCell ⟨g5, 0, none⟩ (.int .i64 b)).setCell ⟨g5, 1, none⟩ (.int .i64 p)) := ((Mem.refl _ _).of_set (by simp)).of_set (by simp)
          have hbw := (hbw.setCell (p := ⟨g5, 0, none⟩) m5 (.int .i64 b)).setCell (p := ⟨g5, 1, none⟩) m5 (.int .i64 p)
          try have HB6 := Lib.hid (HB6.out.grown hg (Ne.symm h56))
          obtain ⟨x5, hW⟩ : ∃ W, ((x4.setCell ⟨g5, 0, none⟩ (.int .i64 b)).setCell ⟨g5, 1, none⟩ (.int .i64 p)) = W := ⟨_, rfl⟩
          rw [hW] at hm hbw hB ⊢
          try rw [hW] at HB6
          have HB5 := Lib.hid hB
          try have l6 := HB6.out.2.2
          have l5 := HB5.out.2.2
          refine hK (fun b => False ∨ b = g5 ∨ b = g6) _ _ (fun b h => .inl h) hm ?_
          clear hm hW hg hB q5 z5 y5
          clear hK K
          try simp only [Act.put, List.setIfInBounds_toArray, List.set_cons_zero, List.set_cons_succ]
          refine rgx_1 13 (by kernel_rfl) ?_
          refine ⟨_, rfl, by rfl, fun K hK => ?_⟩
          obtain ⟨q5, z5, y5⟩ := HB6.out
          go_simp
          have hB := ((HB6.out.set (k := 0) (v := .int .i64 b2) (cs' := #[.int .i64 b2, .int .i64 0]) (by simp) rfl).set (k := 1) (v := .int .i64 p2) (cs' := #[.int .i64 b2, .int .i64 p2]) (by simp) rfl)
          have hg := one_set (one_set (one_refl x5 g6) 0 (.int .i64 b2)) 1 (.int .i64 p2)
          have hm : Mem (fun b => False ∨ b = g5 ∨ b = g6) x5 ((x5.setCell ⟨g6, 0, none⟩ (.int .i64 b2)).setCell ⟨g6, 1, none⟩ (.int .i64 p2)) := ((Mem.refl _ _).of_set (by simp)).of_set (by simp)
          have hbw := (hbw.setCell (p := ⟨g6, 0, none⟩) m6 (.int .i64 b2)).setCell (p := ⟨g6, 1, none⟩) m6 (.int .i64 p2)
          try have HB5 := Lib.hid (HB5.out.grown hg h56)
          obtain ⟨x6, hW⟩ : ∃ W, ((x5.setCell ⟨g6, 0, none⟩ (.int .i64 b2)).setCell ⟨g6, 1, none⟩ (.int .i64 p2)) = W := ⟨_, rfl⟩
          rw [hW] at hm hbw hB ⊢
          try rw [hW] at HB5
          have HB6 := Lib.hid hB
          try have l5 := HB5.out.2.2
          have l6 := HB6.out.2.2
          refine hK (fun b => False ∨ b = g5 ∨ b = g6) _ _ (fun b h => .inl h) hm ?_
          clear hm hW hg hB q5 z5 y5
          clear hK K
          try simp only [Act.put, List.setIfInBounds_toArray, List.set_cons_zero, List.set_cons_succ]
          refine rgx_d (by kernel_rfl) ?_
          go_wp2_with fail
          go_meet
          case rel => exact ⟨g5, g6, rfl, rfl, HB5.out, HB6.out, hbw⟩
      · refine ⟨_, rfl, by rfl, fun K hK => ?_⟩
        go_simp
        obtain ⟨g6, hg⟩ : ∃ g, x1.heap.size = g := ⟨_, rfl⟩
        obtain ⟨x2, hW⟩ : ∃ W, x1.alloc (.cells #[.int .i64 0, .int .i64 0] 23) = W := ⟨_, rfl⟩
        have hb : Below x1.heap.size x1 x2 := hW ▸ (Below.refl _ _).alloc (Nat.le_refl _) _
        have HB6 := Lib.hid (show Box x2 g6 #[.int .i64 0, .int .i64 0] from hW ▸ hg ▸ Box.alloc_)
        rw [hW, hg]
        have m6 : w.heap.size ≤ g6 := hg ▸ hbw.size
        have hbw := ext_trans hbw hb
        try have h56 : g5 ≠ g6 := by omega
        try have HB5 := Lib.hid (HB5.out.below hb)
        try have l5 := HB5.out.2.2
        have l6 := HB6.out.2.2
        refine hK (fun b => False ∨ b = g6) _ _ (fun b h => by simp only [false_or] at h ⊢; omega) (Mem.of_below hb) ?_
        clear hb hW hg
        clear hK K
        try simp only [Act.put, List.setIfInBounds_toArray, List.set_cons_zero, List.set_cons_succ]
        refine rgx_2 5 10 (by kernel_rfl) ?_ ?_
        · refine ⟨_, rfl, by rfl, fun K hK => ?_⟩
          go_simp
          refine (all_any _).mono ?_
          rintro e x3 ⟨A1, cc, rfl, hown, hb⟩
          obtain ⟨g2, o2, rfl, hg1, hc⟩ := (Rd.of_own hown).2 (by omega)
          have c1 := hc _ _ D0.out
          have c2 := hc _ _ D1.out
          rw [← Nat.add_assoc] at c2
          have hn1 : ∀ q, q < x2.heap.size → g2 ≠ q := fun q hq e => by have := (hown.lt g2 rfl).1; omega
          have hbw := ext_trans hbw hb
          try have k5 := hn1 _ l5
          try have k6 := hn1 _ l6
          try have HB5 := Lib.hid (HB5.out.below hb)
          try have HB6 := Lib.hid (HB6.out.below hb)
          try have l5 := HB5.out.2.2
          try have l6 := HB6.out.2.2
          refine hK (fun b => False ∨ b = g6) _ _ (fun b h => .inl h) (Mem.of_below hb) ?_
          clear hb hown hc hn1
          clear hK K
          try simp only [Act.put, List.setIfInBounds_toArray, List.set_cons_zero, List.set_cons_succ]
          refine rgx_q (v := ?_) (some 15) 7 (by kernel_rfl) rfl rfl (by rfl) (fun w' hw K hK => ?_) ?_
          rotate_left
          · go_simp
            refine (HM2.out _).mono ?_
            rintro e w1 ⟨rfl, rfl⟩
            exact hK
          try simp only [Act.put, List.setIfInBounds_toArray, List.set_cons_zero, List.set_cons_succ]
          refine rgx_t (v := ?_) (some 16) 8 (by kernel_rfl) rfl rfl (.inl ⟨by rfl, fun w' q => ?_⟩) ?_
          rotate_left
          · go_simp <;> with_reducible rfl
          try simp only [Act.put, List.setIfInBounds_toArray, List.set_cons_zero, List.set_cons_succ]
          refine rgx_t (v := ?_) (some 17) 9 (by kernel_rfl) rfl rfl (.inl ⟨by rfl, fun w' q => ?_⟩) ?_
          rotate_left
          · go_simp <;> with_reducible rfl
          try simp only [Act.put, List.setIfInBounds_toArray, List.set_cons_zero, List.set_cons_succ]
          refine rgx_1 10 (by kernel_rfl) ?_
          refine ⟨_, rfl, by rfl, fun K hK => ?_⟩
          go_simp
          obtain ⟨g5, hg⟩ : ∃ g, x3.heap.size = g := ⟨_, rfl⟩
          obtain ⟨x4, hW⟩ : ∃ W, x3.alloc (.cells #[.int .i64 0, .int .i64 0] 23) = W := ⟨_, rfl⟩
          have hb : Below x3.heap.size x3 x4 := hW ▸ (Below.refl _ _).alloc (Nat.le_refl _) _
          have HB5 := Lib.hid (show Box x4 g5 #[.int .i64 0, .int .i64 0] from hW ▸ hg ▸ Box.alloc_)
          rw [hW, hg]
          have m5 : w.heap.size ≤ g5 := hg ▸ hbw.size
          have hbw := ext_trans hbw hb
          try have h56 : g5 ≠ g6 := by omega
          try have HB6 := Lib.hid (HB6.out.below hb)
          try have l6 := HB6.out.2.2
          have l5 := HB5.out.2.2
          refine hK (fun b => False ∨ b = g6 ∨ b = g5) _ _ (fun b h => by simp only [false_or] at h ⊢; omega) (Mem.of_below hb) ?_
          clear hb hW hg
          clear hK K
          try simp only [Act.put, List.setIfInBounds_toArray, List.set_cons_zero, List.set_cons_succ]
          refine rgx_1 12 (by kernel_rfl) ?_
          refine ⟨_, rfl, by rfl, fun K hK => ?_⟩
          obtain ⟨q5, z5, y5⟩ := HB5.out
          go_simp
          have hB := ((HB5.out.set (k := 0) (v := .int .i64 b) (cs' := #[.int .i64 b, .int .i64 0]) (by simp) rfl).set (k := 1) (v := .int .i64 p) (cs' := #[.int .i64 b, .int .i64 p]) (by simp) rfl)
          have hg := one_set (one_set (one_refl x4 g5) 0 (.int .i64 b)) 1 (.int .i64 p)
          have hm : Mem (fun b => False ∨ b = g6 ∨ b = g5) x4 ((x4.setCell ⟨g5, 0, none⟩ (.int .i64 b)).setCell ⟨g5, 1, none⟩ (.int .i64 p)) := ((Mem.refl _ _).of_set (by simp)).of_set (by simp)
          have hbw := (hbw.setCell (p := ⟨g5, 0, none⟩) m5 (.int .i64 b)).setCell (p := ⟨g5, 1, none⟩) m5 (.int .i64 p)
          try have HB6 := Lib.hid (HB6.out.grown hg (Ne.symm h56))
          obtain ⟨x5, hW⟩ : ∃ W, ((x4.setCell ⟨g5, 0, none⟩ (.int .i64 b)).setCell ⟨g5, 1, none⟩ (.int .i64 p)) = W := ⟨_, rfl⟩
          rw [hW] at hm hbw hB ⊢
          try rw [hW] at HB6
          have HB5 := Lib.hid hB
          try have l6 := HB6.out.2.2
          have l5 := HB5.out.2.2
          refine hK (fun b => False ∨ b = g6 ∨ b = g5) _ _ (fun b h => .inl h) hm ?_
          clear hm hW hg hB q5 z5 y5
          clear hK K
          try simp only [Act.put, List.setIfInBounds_toArray, List.set_cons_zero, List.set_cons_succ]
          refine rgx_1 13 (by kernel_rfl) ?_
          refine ⟨_, rfl, by rfl, fun K hK => ?_⟩
          obtain ⟨q5, z5, y5⟩ := HB6.out
          go_simp
          have hB := ((HB6.out.set (k := 0) (v := .int .i64 b2) (cs' := #[.int .i64 b2, .int .i64 0]) (by simp) rfl).set (k := 1) (v := .int .i64 p2) (cs' := #[.int .i64 b2, .int .i64 p2]) (by simp) rfl)
          have hg := one_set (one_set (one_refl x5 g6) 0 (.int .i64 b2)) 1 (.int .i64 p2)
          have hm : Mem (fun b => False ∨ b = g6 ∨ b = g5) x5 ((x5.setCell ⟨g6, 0, none⟩ (.int .i64 b2)).setCell ⟨g6, 1, none⟩ (.int .i64 p2)) := ((Mem.refl _ _).of_set (by simp)).of_set (by simp)
          have hbw := (hbw.setCell (p := ⟨g6, 0, none⟩) m6 (.int .i64 b2)).setCell (p := ⟨g6, 1, none⟩) m6 (.int .i64 p2)
          try have HB5 := Lib.hid (HB5.out.grown hg h56)
          obtain ⟨x6, hW⟩ : ∃ W, ((x5.setCell ⟨g6, 0, none⟩ (.int .i64 b2)).setCell ⟨g6, 1, none⟩ (.int .i64 p2)) = W := ⟨_, rfl⟩
          rw [hW] at hm hbw hB ⊢
          try rw [hW] at HB5
          have HB6 := Lib.hid hB
          try have l5 := HB5.out.2.2
          have l6 := HB6.out.2.2
          refine hK (fun b => False ∨ b = g6 ∨ b = g5) _ _ (fun b h => .inl h) hm ?_
          clear hm hW hg hB q5 z5 y5
          clear hK K
          try simp only [Act.put, List.setIfInBounds_toArray, List.set_cons_zero, List.set_cons_succ]
          refine rgx_d (by kernel_rfl) ?_
          go_wp2_with fail
          go_meet
          case rel => exact ⟨g5, g6, rfl, rfl, HB5.out, HB6.out, hbw⟩
        · refine ⟨_, rfl, by rfl, fun K hK => ?_⟩
          go_simp
          obtain ⟨g5, hg⟩ : ∃ g, x2.heap.size = g := ⟨_, rfl⟩
          obtain ⟨x3, hW⟩ : ∃ W, x2.alloc (.cells #[.int .i64 0, .int .i64 0] 23) = W := ⟨_, rfl⟩
          have hb : Below x2.heap.size x2 x3 := hW ▸ (Below.refl _ _).alloc (Nat.le_refl _) _
          have HB5 := Lib.hid (show Box x3 g5 #[.int .i64 0, .int .i64 0] from hW ▸ hg ▸ Box.alloc_)
          rw [hW, hg]
          have m5 : w.heap.size ≤ g5 := hg ▸ hbw.size
          have hbw := ext_trans hbw hb
          try have h56 : g5 ≠ g6 := by omega
          try have HB6 := Lib.hid (HB6.out.below hb)
          try have l6 := HB6.out.2.2
          have l5 := HB5.out.2.2
          refine hK (fun b => False ∨ b = g6 ∨ b = g5) _ _ (fun b h => by simp only [false_or] at h ⊢; omega) (Mem.of_below hb) ?_
          clear hb hW hg
          clear hK K
          try simp only [Act.put, List.setIfInBounds_toArray, List.set_cons_zero, List.set_cons_succ]
          refine rgx_1 5 (by kernel_rfl) ?_
          refine ⟨_, rfl, by rfl, fun K hK => ?_⟩
          go_simp
          refine (all_any _).mono ?_
          rintro e x4 ⟨A1, cc, rfl, hown, hb⟩
          obtain ⟨g2, o2, rfl, hg1, hc⟩ := (Rd.of_own hown).2 (by omega)
          have c1 := hc _ _ D0.out
          have c2 := hc _ _ D1.out
          rw [← Nat.add_assoc] at c2
          have hn1 : ∀ q, q < x3.heap.size → g2 ≠ q := fun q hq e => by have := (hown.lt g2 rfl).1; omega
          have hbw := ext_trans hbw hb
          try have k5 := hn1 _ l5
          try have k6 := hn1 _ l6
          try have HB5 := Lib.hid (HB5.out.below hb)
          try have HB6 := Lib.hid (HB6.out.below hb)
          try have l5 := HB5.out.2.2
          try have l6 := HB6.out.2.2
          refine hK (fun b => False ∨ b = g6 ∨ b = g5) _ _ (fun b h => .inl h) (Mem.of_below hb) ?_
          clear hb hown hc hn1
          clear hK K
          try simp only [Act.put, List.setIfInBounds_toArray, List.set_cons_zero, List.set_cons_succ]
          refine rgx_q (v := ?_) (some 15) 7 (by kernel_rfl) rfl rfl (by rfl) (fun w' hw K hK => ?_) ?_
          rotate_left
          · go_simp
            refine (HM2.out _).mono ?_
            rintro e w1 ⟨rfl, rfl⟩
            exact hK
          try simp only [Act.put, List.setIfInBounds_toArray, List.set_cons_zero, List.set_cons_succ]
          refine rgx_t (v := ?_) (some 16) 8 (by kernel_rfl) rfl rfl (.inl ⟨by rfl, fun w' q => ?_⟩) ?_
          rotate_left
          · go_simp <;> with_reducible rfl
          try simp only [Act.put, List.setIfInBounds_toArray, List.set_cons_zero, List.set_cons_succ]
          refine rgx_t (v := ?_) (some 17) 9 (by kernel_rfl) rfl rfl (.inl ⟨by rfl, fun w' q => ?_⟩) ?_
          rotate_left
          · go_simp <;> with_reducible rfl
          try simp only [Act.put, List.setIfInBounds_toArray, List.set_cons_zero, List.set_cons_succ]
          refine rgx_1 12 (by kernel_rfl) ?_
          refine ⟨_, rfl, by rfl, fun K hK => ?_⟩
          obtain ⟨q5, z5, y5⟩ := HB5.out
          go_simp
          have hB := ((HB5.out.set (k := 0) (v := .int .i64 b) (cs' := #[.int .i64 b, .int .i64 0]) (by simp) rfl).set (k := 1) (v := .int .i64 p) (cs' := #[.int .i64 b, .int .i64 p]) (by simp) rfl)
          have hg := one_set (one_set (one_refl x4 g5) 0 (.int .i64 b)) 1 (.int .i64 p)
          have hm : Mem (fun b => False ∨ b = g6 ∨ b = g5) x4 ((x4.setCell ⟨g5, 0, none⟩ (.int .i64 b)).setCell ⟨g5, 1, none⟩ (.int .i64 p)) := ((Mem.refl _ _).of_set (by simp)).of_set (by simp)
          have hbw := (hbw.setCell (p := ⟨g5, 0, none⟩) m5 (.int .i64 b)).setCell (p := ⟨g5, 1, none⟩) m5 (.int .i64 p)
          try have HB6 := Lib.hid (HB6.out.grown hg (Ne.symm h56))
          obtain ⟨x5, hW⟩ : ∃ W, ((x4.setCell ⟨g5, 0, none⟩ (.int .i64 b)).setCell ⟨g5, 1, none⟩ (.int .i64 p)) = W := ⟨_, rfl⟩
          rw [hW] at hm hbw hB ⊢
          try rw [hW] at HB6
          have HB5 := Lib.hid hB
          try have l6 := HB6.out.2.2
          have l5 := HB5.out.2.2
          refine hK (fun b => False ∨ b = g6 ∨ b = g5) _ _ (fun b h => .inl h) hm ?_
          clear hm hW hg hB q5 z5 y5
          clear hK K
          try simp only [Act.put, List.setIfInBounds_toArray, List.set_cons_zero, List.set_cons_succ]
          refine rgx_1 13 (by kernel_rfl) ?_
          refine ⟨_, rfl, by rfl, fun K hK => ?_⟩
          obtain ⟨q5, z5, y5⟩ := HB6.out
          go_simp
          have hB := ((HB6.out.set (k := 0) (v := .int .i64 b2) (cs' := #[.int .i64 b2, .int .i64 0]) (by simp) rfl).set (k := 1) (v := .int .i64 p2) (cs' := #[.int .i64 b2, .int .i64 p2]) (by simp) rfl)
          have hg := one_set (one_set (one_refl x5 g6) 0 (.int .i64 b2)) 1 (.int .i64 p2)
          have hm : Mem (fun b => False ∨ b = g6 ∨ b = g5) x5 ((x5.setCell ⟨g6, 0, none⟩ (.int .i64 b2)).setCell ⟨g6, 1, none⟩ (.int .i64 p2)) := ((Mem.refl _ _).of_set (by simp)).of_set (by simp)
          have hbw := (hbw.setCell (p := ⟨g6, 0, none⟩) m6 (.int .i64 b2)).setCell (p := ⟨g6, 1, none⟩) m6 (.int .i64 p2)
          try have HB5 := Lib.hid (HB5.out.grown hg h56)
          obtain ⟨x6, hW⟩ : ∃ W, ((x5.setCell ⟨g6, 0, none⟩ (.int .i64 b2)).setCell ⟨g6, 1, none⟩ (.int .i64 p2)) = W := ⟨_, rfl⟩
          rw [hW] at hm hbw hB ⊢
          try rw [hW] at HB5
          have HB6 := Lib.hid hB
          try have l5 := HB5.out.2.2
          have l6 := HB6.out.2.2
          refine hK (fun b => False ∨ b = g6 ∨ b = g5) _ _ (fun b h => .inl h) hm ?_
          clear hm hW hg hB q5 z5 y5
          clear hK K
          try simp only [Act.put, List.setIfInBounds_toArray, List.set_cons_zero, List.set_cons_succ]
          refine rgx_d (by kernel_rfl) ?_
          go_wp2_with fail
          go_meet
          case rel => exact ⟨g5, g6, rfl, rfl, HB5.out, HB6.out, hbw⟩
    · refine ⟨_, rfl, by rfl, fun K hK => ?_⟩
      go_simp
      obtain ⟨g5, hg⟩ : ∃ g, w0.heap.size = g := ⟨_, rfl⟩
      obtain ⟨x1, hW⟩ : ∃ W, w0.alloc (.cells #[.int .i64 0, .int .i64 0] 23) = W := ⟨_, rfl⟩
      have hb : Below w0.heap.size w0 x1 := hW ▸ (Below.refl _ _).alloc (Nat.le_refl _) _
      have HB5 := Lib.hid (show Box x1 g5 #[.int .i64 0, .int .i64 0] from hW ▸ hg ▸ Box.alloc_)
      rw [hW, hg]
      have m5 : w.heap.size ≤ g5 := hg ▸ hbw.size
      have hbw := ext_trans hbw hb
      try have h56 : g5 ≠ g6 := by omega
      try have HB6 := Lib.hid (HB6.out.below hb)
      try have l6 := HB6.out.2.2
      have l5 := HB5.out.2.2
      refine hK (fun b => False ∨ b = g5) _ _ (fun b h => by simp only [false_or] at h ⊢; omega) (Mem.of_below hb) ?_
      clear hb hW hg
      clear hK K
      try simp only [Act.put, List.setIfInBounds_toArray, List.set_cons_zero, List.set_cons_succ]
      refine rgx_2 0 11 (by kernel_rfl) ?_ ?_
      · refine ⟨_, rfl, by rfl, fun K hK => ?_⟩
        go_simp
        refine (all_any _).mono ?_
        rintro e x2 ⟨A1, cc, rfl, hown, hb⟩
        obtain ⟨g1, o1, rfl, hg1, hc⟩ := (Rd.of_own hown).2 (by omega)
        have c1 := hc _ _ E0.out
        have c2 := hc _ _ E1.out
        rw [← Nat.add_assoc] at c2
        have hn1 : ∀ q, q < x1.heap.size → g1 ≠ q := fun q hq e => by have := (hown.lt g1 rfl).1; omega
        have hbw := ext_trans hbw hb
        try have k5 := hn1 _ l5
        try have k6 := hn1 _ l6
        try have HB5 := Lib.hid (HB5.out.below hb)
        try have HB6 := Lib.hid (HB6.out.below hb)
        try have l5 := HB5.out.2.2
        try have l6 := HB6.out.2.2
        refine hK (fun b => False ∨ b = g5) _ _ (fun b h => .inl h) (Mem.of_below hb) ?_
        clear hb hown hc hn1
        clear hK K
        try simp only [Act.put, List.setIfInBounds_toArray, List.set_cons_zero, List.set_cons_succ]
        refine rgx_q (v := ?_) (some 10) 2 (by kernel_rfl) rfl rfl (by rfl) (fun w' hw K hK => ?_) ?_
        rotate_left
        · go_simp
          refine (HM.out _).mono ?_
          rintro e w1 ⟨rfl, rfl⟩
          exact hK
        try simp only [Act.put, List.setIfInBounds_toArray, List.set_cons_zero, List.set_cons_succ]
        refine rgx_t (v := ?_) (some 11) 3 (by kernel_rfl) rfl rfl (.inl ⟨by rfl, fun w' q => ?_⟩) ?_
        rotate_left
        · go_simp <;> with_reducible rfl
        try simp only [Act.put, List.setIfInBounds_toArray, List.set_cons_zero, List.set_cons_succ]
        refine rgx_t (v := ?_) (some 12) 4 (by kernel_rfl) rfl rfl (.inl ⟨by rfl, fun w' q => ?_⟩) ?_
        rotate_left
        · go_simp <;> with_reducible rfl
        try simp only [Act.put, List.setIfInBounds_toArray, List.set_cons_zero, List.set_cons_succ]
        refine rgx_2 5 11 (by kernel_rfl) ?_ ?_
        · refine ⟨_, rfl, by rfl, fun K hK => ?_⟩
          go_simp
          refine (all_any _).mono ?_
          rintro e x3 ⟨A1, cc, rfl, hown, hb⟩
          obtain ⟨g2, o2, rfl, hg1, hc⟩ := (Rd.of_own hown).2 (by omega)
          have c1 := hc _ _ D0.out
          have c2 := hc _ _ D1.out
          rw [← Nat.add_assoc] at c2
          have hn1 : ∀ q, q < x2.heap.size → g2 ≠ q := fun q hq e => by have := (hown.lt g2 rfl).1; omega
          have hbw := ext_trans hbw hb
          try have k5 := hn1 _ l5
          try have k6 := hn1 _ l6
          try have HB5 := Lib.hid (HB5.out.below hb)
          try have HB6 := Lib.hid (HB6.out.below hb)
          try have l5 := HB5.out.2.2
          try have l6 := HB6.out.2.2
          refine hK (fun b => False ∨ b = g5) _ _ (fun b h => .inl h) (Mem.of_below hb) ?_
          clear hb hown hc hn1
          clear hK K
          try simp only [Act.put, List.setIfInBounds_toArray, List.set_cons_zero, List.set_cons_succ]
          refine rgx_q (v := ?_) (some 15) 7 (by kernel_rfl) rfl rfl (by rfl) (fun w' hw K hK => ?_) ?_
          rotate_left
          · go_simp
            refine (HM2.out _).mono ?_
            rintro e w1 ⟨rfl, rfl⟩
            exact hK
          try simp only [Act.put, List.setIfInBounds_toArray, List.set_cons_zero, List.set_cons_succ]
          refine rgx_t (v := ?_) (some 16) 8 (by kernel_rfl) rfl rfl (.inl ⟨by rfl, fun w' q => ?_⟩) ?_
          rotate_left
          · go_simp <;> with_reducible rfl
          try simp only [Act.put, List.setIfInBounds_toArray, List.set_cons_zero, List.set_cons_succ]
          refine rgx_t (v := ?_) (some 17) 9 (by kernel_rfl) rfl rfl (.inl ⟨by rfl, fun w' q => ?_⟩) ?_
          rotate_left
          · go_simp <;> with_reducible rfl
          try simp only [Act.put, List.setIfInBounds_toArray, List.set_cons_zero, List.set_cons_succ]
          refine rgx_1 11 (by kernel_rfl) ?_
          refine ⟨_, rfl, by rfl, fun K hK => ?_⟩
          go_simp
          obtain ⟨g6, hg⟩ : ∃ g, x3.heap.size = g := ⟨_, rfl⟩
          obtain ⟨x4, hW⟩ : ∃ W, x3.alloc (.cells #[.int .i64 0, .int .i64 0] 23) = W := ⟨_, rfl⟩
          have hb : Below x3.heap.size x3 x4 := hW ▸ (Below.refl _ _).alloc (Nat.le_refl _) _
          have HB6 := Lib.hid (show Box x4 g6 #[.int .i64 0, .int .i64 0] from hW ▸ hg ▸ Box.alloc_)
          rw [hW, hg]
          have m6 : w.heap.size ≤ g6 := hg ▸ hbw.size
          have hbw := ext_trans hbw hb
          try have h56 : g5 ≠ g6 := by omega
          try have HB5 := Lib.hid (HB5.out.below hb)
          try have l5 := HB5.out.2.2
          have l6 := HB6.out.2.2
          refine hK (fun b => False ∨ b = g5 ∨ b = g6) _ _ (fun b h => by simp only [false_or] at h ⊢; omega) (Mem.of_below hb) ?_
          clear hb hW hg
          clear hK K
          try simp only [Act.put, List.setIfInBounds_toArray, List.set_cons_zero, List.set_cons_succ]
          refine rgx_1 12 (by kernel_rfl) ?_
          refine ⟨_, rfl, by rfl, fun K hK => ?_⟩
          obtain ⟨q5, z5, y5⟩ := HB5.out
          go_simp
          have hB := ((HB5.out.set (k := 0) (v := .int .i64 b) (cs' := #[.int .i64 b, .int .i64 0]) (by simp) rfl).set (k := 1) (v := .int .i64 p) (cs' := #[.int .i64 b, .int .i64 p]) (by simp) rfl)
          have hg := one_set (one_set (one_refl x4 g5) 0 (.int .i64 b)) 1 (.int .i64 p)
          have hm : Mem (fun b => False ∨ b = g5 ∨ b = g6) x4 ((x4.setCell ⟨g5, 0, none⟩ (.int .i64 b)).setCell ⟨g5, 1, none⟩ (.int .i64 p)) := ((Mem.refl _ _).of_set (by simp)).of_set (by simp)
          have hbw := (hbw.setCell (p := ⟨g5, 0, none⟩) m5 (.int .i64 b)).setCell (p := ⟨g5, 1, none⟩) m5 (.int .i64 p)
          try have HB6 := Lib.hid (HB6.out.grown hg (Ne.symm h56))
          obtain ⟨x5, hW⟩ : ∃ W, ((x4.setCell ⟨g5, 0, none⟩ (.int .i64 b)).setCell ⟨g5, 1, none⟩ (.int .i64 p)) = W := ⟨_, rfl⟩
          rw [hW] at hm hbw hB ⊢
          try rw [hW] at HB6
          have HB5 := Lib.hid hB
          try have l6 := HB6.out.2.2
          have l5 := HB5.out.2.2
          refine hK (fun b => False ∨ b = g5 ∨ b = g6) _ _ (fun b h => .inl h) hm ?_
          clear hm hW hg hB q5 z5 y5
          clear hK K
          try simp only [Act.put, List.setIfInBounds_toArray, List.set_cons_zero, List.set_cons_succ]
          refine rgx_1 13 (by kernel_rfl) ?_
          refine ⟨_, rfl, by rfl, fun K hK => ?_⟩
          obtain ⟨q5, z5, y5⟩ := HB6.out
          go_simp
          have hB := ((HB6.out.set (k := 0) (v := .int .i64 b2) (cs' := #[.int .i64 b2, .int .i64 0]) (by simp) rfl).set (k := 1) (v := .int .i64 p2) (cs' := #[.int .i64 b2, .int .i64 p2]) (by simp) rfl)
          have hg := one_set (one_set (one_refl x5 g6) 0 (.int .i64 b2)) 1 (.int .i64 p2)
          have hm : Mem (fun b => False ∨ b = g5 ∨ b = g6) x5 ((x5.setCell ⟨g6, 0, none⟩ (.int .i64 b2)).setCell ⟨g6, 1, none⟩ (.int .i64 p2)) := ((Mem.refl _ _).of_set (by simp)).of_set (by simp)
          have hbw := (hbw.setCell (p := ⟨g6, 0, none⟩) m6 (.int .i64 b2)).setCell (p := ⟨g6, 1, none⟩) m6 (.int .i64 p2)
          try have HB5 := Lib.hid (HB5.out.grown hg h56)
          obtain ⟨x6, hW⟩ : ∃ W, ((x5.setCell ⟨g6, 0, none⟩ (.int .i64 b2)).setCell ⟨g6, 1, none⟩ (.int .i64 p2)) = W := ⟨_, rfl⟩
          rw [hW] at hm hbw hB ⊢
          try rw [hW] at HB5
          have HB6 := Lib.hid hB
          try have l5 := HB5.out.2.2
          have l6 := HB6.out.2.2
          refine hK (fun b => False ∨ b = g5 ∨ b = g6) _ _ (fun b h => .inl h) hm ?_
          clear hm hW hg hB q5 z5 y5
          clear hK K
          try simp only [Act.put, List.setIfInBounds_toArray, List.set_cons_zero, List.set_cons_succ]
          refine rgx_d (by kernel_rfl) ?_
          go_wp2_with fail
          go_meet
          case rel => exact ⟨g5, g6, rfl, rfl, HB5.out, HB6.out, hbw⟩
        · refine ⟨_, rfl, by rfl, fun K hK => ?_⟩
          go_simp
          obtain ⟨g6, hg⟩ : ∃ g, x2.heap.size = g := ⟨_, rfl⟩
          obtain ⟨x3, hW⟩ : ∃ W, x2.alloc (.cells #[.int .i64 0, .int .i64 0] 23) = W := ⟨_, rfl⟩
          have hb : Below x2.heap.size x2 x3 := hW ▸ (Below.refl _ _).alloc (Nat.le_refl _) _
          have HB6 := Lib.hid (show Box x3 g6 #[.int .i64 0, .int .i64 0] from hW ▸ hg ▸ Box.alloc_)
          rw [hW, hg]
          have m6 : w.heap.size ≤ g6 := hg ▸ hbw.size
          have hbw := ext_trans hbw hb
          try have h56 : g5 ≠ g6 := by omega
          try have HB5 := Lib.hid (HB5.out.below hb)
          try have l5 := HB5.out.2.2
          have l6 := HB6.out.2.2
          refine hK (fun b => False ∨ b = g5 ∨ b = g6) _ _ (fun b h => by simp only [false_or] at h ⊢; omega) (Mem.of_below hb) ?_
          clear hb hW hg
          clear hK K
          try simp only [Act.put, List.setIfInBounds_toArray, List.set_cons_zero, List.set_cons_succ]
          refine rgx_1 5 (by kernel_rfl) ?_
          refine ⟨_, rfl, by rfl, fun K hK => ?_⟩
          go_simp
          refine (all_any _).mono ?_
          rintro e x4 ⟨A1, cc, rfl, hown, hb⟩
          obtain ⟨g2, o2, rfl, hg1, hc⟩ := (Rd.of_own hown).2 (by omega)
          have c1 := hc _ _ D0.out
          have c2 := hc _ _ D1.out
          rw [← Nat.add_assoc] at c2
          have hn1 : ∀ q, q < x3.heap.size → g2 ≠ q := fun q hq e => by have := (hown.lt g2 rfl).1; omega
          have hbw := ext_trans hbw hb
          try have k5 := hn1 _ l5
          try have k6 := hn1 _ l6
          try have HB5 := Lib.hid (HB5.out.below hb)
          try have HB6 := Lib.hid (HB6.out.below hb)
          try have l5 := HB5.out.2.2
          try have l6 := HB6.out.2.2
          refine hK (fun b => False ∨ b = g5 ∨ b = g6) _ _ (fun b h => .inl h) (Mem.of_below hb) ?_
          clear hb hown hc hn1
          clear hK K
          try simp only [Act.put, List.setIfInBounds_toArray, List.set_cons_zero, List.set_cons_succ]
          refine rgx_q (v := ?_) (some 15) 7 (by kernel_rfl) rfl rfl (by rfl) (fun w' hw K hK => ?_) ?_
          rotate_left
          · go_simp
            refine (HM2.out _).mono ?_
            rintro e w1 ⟨rfl, rfl⟩
            exact hK
          try simp only [Act.put, List.setIfInBounds_toArray, List.set_cons_zero, List.set_cons_succ]
          refine rgx_t (v := ?_) (some 16) 8 (by kernel_rfl) rfl rfl (.inl ⟨by rfl, fun w' q => ?_⟩) ?_
          rotate_left
          · go_simp <;> with_reducible rfl
          try simp only [Act.put, List.setIfInBounds_toArray, List.set_cons_zero, List.set_cons_succ]
          refine rgx_t (v := ?_) (some 17) 9 (by kernel_rfl) rfl rfl (.inl ⟨by rfl, fun w' q => ?_⟩) ?_
          rotate_left
          · go_simp <;> with_reducible rfl
          try simp only [Act.put, List.setIfInBounds_toArray, List.set_cons_zero, List.set_cons_succ]
          refine rgx_1 12 (by kernel_rfl) ?_
          refine ⟨_, rfl, by rfl, fun K hK => ?_⟩
          obtain ⟨q5, z5, y5⟩ := HB5.out
          go_simp
          have hB := ((HB5.out.set (k := 0) (v := .int .i64 b) (cs' := #[.int .i64 b, .int .i64 0]) (by simp) rfl).set (k := 1) (v := .int .i64 p) (cs' := #[.int .i64 b, .int .i64 p]) (by simp) rfl)
          have hg := one_set (one_set (one_refl x4 g5) 0 (.int .i64 b)) 1 (.int .i64 p)
          have hm : Mem (fun b => False ∨ b = g5 ∨ b = g6) x4 ((x4.setCell ⟨g5, 0, none⟩ (.int .i64 b)).setCell ⟨g5, 1, none⟩ (.int .i64 p)) := ((Mem.refl _ _).of_set (by simp)).of_set (by simp)
          have hbw := (hbw.setCell (p := ⟨g5, 0, none⟩) m5 (.int .i64 b)).setCell (p := ⟨g5, 1, none⟩) m5 (.int .i64 p)
          try have HB6 := Lib.hid (HB6.out.grown hg (Ne.symm h56))
          obtain ⟨x5, hW⟩ : ∃ W, ((x4.setCell ⟨g5, 0, none⟩ (.int .i64 b)).setCell ⟨g5, 1, none⟩ (.int .i64 p)) = W := ⟨_, rfl⟩
          rw [hW] at hm hbw hB ⊢
          try rw [hW] at HB6
          have HB5 := Lib.hid hB
          try have l6 := HB6.out.2.2
          have l5 := HB5.out.2.2
          refine hK (fun b => False ∨ b = g5 ∨ b = g6) _ _ (fun b h => .inl h) hm ?_
          clear hm hW hg hB q5 z5 y5
          clear hK K
          try simp only [Act.put, List.setIfInBounds_toArray, List.set_cons_zero, List.set_cons_succ]
          refine rgx_1 13 (by kernel_rfl) ?_
          refine ⟨_, rfl, by rfl, fun K hK => ?_⟩
          obtain ⟨q5, z5, y5⟩ := HB6.out
          go_simp
          have hB := ((HB6.out.set (k := 0) (v := .int .i64 b2) (cs' := #[.int .i64 b2, .int .i64 0]) (by simp) rfl).set (k := 1) (v := .int .i64 p2) (cs' := #[.int .i64 b2, .int .i64 p2]) (by simp) rfl)
          have hg := one_set (one_set (one_refl x5 g6) 0 (.int .i64 b2)) 1 (.int .i64 p2)
          have hm : Mem (fun b => False ∨ b = g5 ∨ b = g6) x5 ((x5.setCell ⟨g6, 0, none⟩ (.int .i64 b2)).setCell ⟨g6, 1, none⟩ (.int .i64 p2)) := ((Mem.refl _ _).of_set (by simp)).of_set (by simp)
          have hbw := (hbw.setCell (p := ⟨g6, 0, none⟩) m6 (.int .i64 b2)).setCell (p := ⟨g6, 1, none⟩) m6 (.int .i64 p2)
          try have HB5 := Lib.hid (HB5.out.grown hg h56)
          obtain ⟨x6, hW⟩ : ∃ W, ((x5.setCell ⟨g6, 0, none⟩ (.int .i64 b2)).setCell ⟨g6, 1, none⟩ (.int .i64 p2)) = W := ⟨_, rfl⟩
          rw [hW] at hm hbw hB ⊢
          try rw [hW] at HB5
          have HB6 := Lib.hid hB
          try have l5 := HB5.out.2.2
          have l6 := HB6.out.2.2
          refine hK (fun b => False ∨ b = g5 ∨ b = g6) _ _ (fun b h => .inl h) hm ?_
          clear hm hW hg hB q5 z5 y5
          clear hK K
          try simp only [Act.put, List.setIfInBounds_toArray, List.set_cons_zero, List.set_cons_succ]
          refine rgx_d (by kernel_rfl) ?_
          go_wp2_with fail
          go_meet
          case rel => exact ⟨g5, g6, rfl, rfl, HB5.out, HB6.out, hbw⟩
      · refine ⟨_, rfl, by rfl, fun K hK => ?_⟩
        go_simp
        obtain ⟨g6, hg⟩ : ∃ g, x1.heap.size = g := ⟨_, rfl⟩
        obtain ⟨x2, hW⟩ : ∃ W, x1.alloc (.cells #[.int .i64 0, .int .i64 0] 23) = W := ⟨_, rfl⟩
        have hb : Below x1.heap.size x1 x2 := hW ▸ (Below.refl _ _).alloc (Nat.le_refl _) _
        have HB6 := Lib.hid (show Box x2 g6 #[.int .i64 0, .int .i64 0] from hW ▸ hg ▸ Box.alloc_)
        rw [hW, hg]
        have m6 : w.heap.size ≤ g6 := hg ▸ hbw.size
        have hbw := ext_trans hbw hb
        try have h56 : g5 ≠ g6 := by omega
        try have HB5 := Lib.hid (HB5.out.below hb)
        try have l5 := HB5.out.2.2
        have l6 := HB6.out.2.2
        refine hK (fun b => False ∨ b = g5 ∨ b = g6) _ _ (fun b h => by simp only [false_or] at h ⊢; omega) (Mem.of_below hb) ?_
        clear hb hW hg
        clear hK K
        try simp only [Act.put, List.setIfInBounds_toArray, List.set_cons_zero, List.set_cons_succ]
        refine rgx_1 0 (by kernel_rfl) ?_
        refine ⟨_, rfl, by rfl, fun K hK => ?_⟩
        go_simp
        refine (all_any _).mono ?_
        rintro e x3 ⟨A1, cc, rfl, hown, hb⟩
        obtain ⟨g1, o1, rfl, hg1, hc⟩ := (Rd.of_own hown).2 (by omega)
        have c1 := hc _ _ E0.out
        have c2 := hc _ _ E1.out
        rw [← Nat.add_assoc] at c2
        have hn1 : ∀ q, q < x2.heap.size → g1 ≠ q := fun q hq e => by have := (hown.lt g1 rfl).1; omega
        have hbw := ext_trans hbw hb
        try have k5 := hn1 _ l5
        try have k6 := hn1 _ l6
        try have HB5 := Lib.hid (HB5.out.below hb)
        try have HB6 := Lib.hid (HB6.out.below hb)
        try have l5 := HB5.out.2.2
        try have l6 := HB6.out.2.2
        refine hK (fun b => False ∨ b = g5 ∨ b = g6) _ _ (fun b h => .inl h) (Mem.of_below hb) ?_
        clear hb hown hc hn1
        clear hK K
        try simp only [Act.put, List.setIfInBounds_toArray, List.set_cons_zero, List.set_cons_succ]
        refine rgx_q (v := ?_) (some 10) 2 (by kernel_rfl) rfl rfl (by rfl) (fun w' hw K hK => ?_) ?_
        rotate_left
        · go_simp
          refine (HM.out _).mono ?_
          rintro e w1 ⟨rfl, rfl⟩
          exact hK
        try simp only [Act.put, List.setIfInBounds_toArray, List.set_cons_zero, List.set_cons_succ]
        refine rgx_t (v := ?_) (some 11) 3 (by kernel_rfl) rfl rfl (.inl ⟨by rfl, fun w' q => ?_⟩) ?_
        rotate_left
        · go_simp <;> with_reducible rfl
        try simp only [Act.put, List.setIfInBounds_toArray, List.set_cons_zero, List.set_cons_succ]
        refine rgx_t (v := ?_) (some 12) 4 (by kernel_rfl) rfl rfl (.inl ⟨by rfl, fun w' q => ?_⟩) ?_
        rotate_left
        · go_simp <;> with_reducible rfl
        try simp only [Act.put, List.setIfInBounds_toArray, List.set_cons_zero, List.set_cons_succ]
        refine rgx_1 5 (by kernel_rfl) ?_
        refine ⟨_, rfl, by rfl, fun K hK => ?_⟩
        go_simp
        refine (all_any _).mono ?_
        rintro e x4 ⟨A1, cc, rfl, hown, hb⟩
        obtain ⟨g2, o2, rfl, hg1, hc⟩ := (Rd.of_own hown).2 (by omega)
        have c1 := hc _ _ D0.out
        have c2 := hc _ _ D1.out
        rw [← Nat.add_assoc] at c2
        have hn1 : ∀ q, q < x3.heap.size → g2 ≠ q := fun q hq e => by have := (hown.lt g2 rfl).1; omega
        have hbw := ext_trans hbw hb
        try have k5 := hn1 _ l5
        try have k6 := hn1 _ l6
        try have HB5 := Lib.hid (HB5.out.below hb)
        try have HB6 := Lib.hid (HB6.out.below hb)
        try have l5 := HB5.out.2.2
        try have l6 := HB6.out.2.2
        refine hK (fun b => False ∨ b = g5 ∨ b = g6) _ _ (fun b h => .inl h) (Mem.of_below hb) ?_
        clear hb hown hc hn1
        clear hK K
        try simp only [Act.put, List.setIfInBounds_toArray, List.set_cons_zero, List.set_cons_succ]
        refine rgx_q (v := ?_) (some 15) 7 (by kernel_rfl) rfl rfl (by rfl) (fun w' hw K hK => ?_) ?_
        rotate_left
        · go_simp
          refine (HM2.out _).mono ?_
          rintro e w1 ⟨rfl, rfl⟩
          exact hK
        try simp only [Act.put, List.setIfInBounds_toArray, List.set_cons_zero, List.set_cons_succ]
        refine rgx_t (v := ?_) (some 16) 8 (by kernel_rfl) rfl rfl (.inl ⟨by rfl, fun w' q => ?_⟩) ?_
        rotate_left
        · go_simp <;> with_reducible rfl
        try simp only [Act.put, List.setIfInBounds_toArray, List.set_cons_zero, List.set_cons_succ]
        refine rgx_t (v := ?_) (some 17) 9 (by kernel_rfl) rfl rfl (.inl ⟨by rfl, fun w' q => ?_⟩) ?_
        rotate_left
        · go_simp <;> with_reducible rfl
        try simp only [Act.put, List.setIfInBounds_toArray, List.set_cons_zero, List.set_cons_succ]
        refine rgx_1 12 (by kernel_rfl) ?_
        refine ⟨_, rfl, by rfl, fun K hK => ?_⟩
        obtain ⟨q5, z5, y5⟩ := HB5.out
        go_simp
        have hB := ((HB5.out.set (k := 0) (v := .int .i64 b) (cs' := #[.int .i64 b, .int .i64 0]) (by simp) rfl).set (k := 1) (v := .int .i64 p) (cs' := #[.int .i64 b, .int .i64 p]) (by simp) rfl)
        have hg := one_set (one_set (one_refl x4 g5) 0 (.int .i64 b)) 1 (.int .i64 p)
        have hm : Mem (fun b => False ∨ b = g5 ∨ b = g6) x4 ((x4.setCell ⟨g5, 0, none⟩ (.int .i64 b)).setCell ⟨g5, 1, none⟩ (.int .i64 p)) := ((Mem.refl _ _).of_set (by simp)).of_set (by simp)
        have hbw := (hbw.setCell (p := ⟨g5, 0, none⟩) m5 (.int .i64 b)).setCell (p := ⟨g5, 1, none⟩) m5 (.int .i64 p)
        try have HB6 := Lib.hid (HB6.out.grown hg (Ne.symm h56))
        obtain ⟨x5, hW⟩ : ∃ W, ((x4.setCell ⟨g5, 0, none⟩ (.int .i64 b)).setCell ⟨g5, 1, none⟩ (.int .i64 p)) = W := ⟨_, rfl⟩
        rw [hW] at hm hbw hB ⊢
        try rw [hW] at HB6
        have HB5 := Lib.hid hB
        try have l6 := HB6.out.2.2
        have l5 := HB5.out.2.2
        refine hK (fun b => False ∨ b = g5 ∨ b = g6) _ _ (fun b h => .inl h) hm ?_
        clear hm hW hg hB q5 z5 y5
        clear hK K
        try simp only [Act.put, List.setIfInBounds_toArray, List.set_cons_zero, List.set_cons_succ]
        refine rgx_1 13 (by kernel_rfl) ?_
        refine ⟨_, rfl, by rfl, fun K hK => ?_⟩
        obtain ⟨q5, z5, y5⟩ := HB6.out
        go_simp
        have hB := ((HB6.out.set (k := 0) (v := .int .i64 b2) (cs' := #[.int .i64 b2, .int .i64 0]) (by simp) rfl).set (k := 1) (v := .int .i64 p2) (cs' := #[.int .i64 b2, .int .i64 p2]) (by simp) rfl)
        have hg := one_set (one_set (one_refl x5 g6) 0 (.int .i64 b2)) 1 (.int .i64 p2)
        have hm : Mem (fun b => False ∨ b = g5 ∨ b = g6) x5 ((x5.setCell ⟨g6, 0, none⟩ (.int .i64 b2)).setCell ⟨g6, 1, none⟩ (.int .i64 p2)) := ((Mem.refl _ _).of_set (by simp)).of_set (by simp)
        have hbw := (hbw.setCell (p := ⟨g6, 0, none⟩) m6 (.int .i64 b2)).setCell (p := ⟨g6, 1, none⟩) m6 (.int .i64 p2)
        try have HB5 := Lib.hid (HB5.out.grown hg h56)
        obtain ⟨x6, hW⟩ : ∃ W, ((x5.setCell ⟨g6, 0, none⟩ (.int .i64 b2)).setCell ⟨g6, 1, none⟩ (.int .i64 p2)) = W := ⟨_, rfl⟩
        rw [hW] at hm hbw hB ⊢
        try rw [hW] at HB5
        have HB6 := Lib.hid hB
        try have l5 := HB5.out.2.2
        have l6 := HB6.out.2.2
        refine hK (fun b => False ∨ b = g5 ∨ b = g6) _ _ (fun b h => .inl h) hm ?_
        clear hm hW hg hB q5 z5 y5
        clear hK K
        try simp only [Act.put, List.setIfInBounds_toArray, List.set_cons_zero, List.set_cons_succ]
        refine rgx_d (by kernel_rfl) ?_
        go_wp2_with fail
        go_meet
        case rel => exact ⟨g5, g6, rfl, rfl, HB5.out, HB6.out, hbw⟩
    · refine ⟨_, rfl, by rfl, fun K hK => ?_⟩
      go_simp
      obtain ⟨g6, hg⟩ : ∃ g, w0.heap.size = g := ⟨_, rfl⟩
      obtain ⟨x1, hW⟩ : ∃ W, w0.alloc (.cells #[.int .i64 0, .int .i64 0] 23) = W := ⟨_, rfl⟩
      have hb : Below w0.heap.size w0 x1 := hW ▸ (Below.refl _ _).alloc (Nat.le_refl _) _
      have HB6 := Lib.hid (show Box x1 g6 #[.int .i64 0, .int .i64 0] from hW ▸ hg ▸ Box.alloc_)
      rw [hW, hg]
      have m6 : w.heap.size ≤ g6 := hg ▸ hbw.size
      have hbw := ext_trans hbw hb
      try have h56 : g5 ≠ g6 := by omega
      try have HB5 := Lib.hid (HB5.out.below hb)
      try have l5 := HB5.out.2.2
      have l6 := HB6.out.2.2
      refine hK (fun b => False ∨ b = g6) _ _ (fun b h => by simp only [false_or] at h ⊢; omega) (Mem.of_below hb) ?_
      clear hb hW hg
      clear hK K
      try simp only [Act.put, List.setIfInBounds_toArray, List.set_cons_zero, List.set_cons_succ]
      refine rgx_2 0 10 (by kernel_rfl) ?_ ?_
      · refine ⟨_, rfl, by rfl, fun K hK => ?_⟩
        go_simp
        refine (all_any _).mono ?_
        rintro e x2 ⟨A1, cc, rfl, hown, hb⟩
        obtain ⟨g1, o1, rfl, hg1, hc⟩ := (Rd.of_own hown).2 (by omega)
        have c1 := hc _ _ E0.out
        have c2 := hc _ _ E1.out
        rw [← Nat.add_assoc] at c2
        have hn1 : ∀ q, q < x1.heap.size → g1 ≠ q := fun q hq e => by have := (hown.lt g1 rfl).1; omega
        have hbw := ext_trans hbw hb
        try have k5 := hn1 _ l5
        try have k6 := hn1 _ l6
        try have HB5 := Lib.hid (HB5.out.below hb)
        try have HB6 := Lib.hid (HB6.out.below hb)
        try have l5 := HB5.out.2.2
        try have l6 := HB6.out.2.2
        refine hK (fun b => False ∨ b = g6) _ _ (fun b h => .inl h) (Mem.of_below hb) ?_
        clear hb hown hc hn1
        clear hK K
        try simp only [Act.put, List.setIfInBounds_toArray, List.set_cons_zero, List.set_cons_succ]
        refine rgx_q (v := ?_) (some 10) 2 (by kernel_rfl) rfl rfl (by rfl) (fun w' hw K hK => ?_) ?_
        rotate_left
        · go_simp
          refine (HM.out _).mono ?_
          rintro e w1 ⟨rfl, rfl⟩
          exact hK
        try simp only [Act.put, List.setIfInBounds_toArray, List.set_cons_zero, List.set_cons_succ]
        refine rgx_t (v := ?_) (some 11) 3 (by kernel_rfl) rfl rfl (.inl ⟨by rfl, fun w' q => ?_⟩) ?_
        rotate_left
        · go_simp <;> with_reducible rfl
        try simp only [Act.put, List.setIfInBounds_toArray, List.set_cons_zero, List.set_cons_succ]
        refine rgx_t (v := ?_) (some 12) 4 (by kernel_rfl) rfl rfl (.inl ⟨by rfl, fun w' q => ?_⟩) ?_
        rotate_left
        · go_simp <;> with_reducible rfl
        try simp only [Act.put, List.setIfInBounds_toArray, List.set_cons_zero, List.set_cons_succ]
        refine rgx_2 5 10 (by kernel_rfl) ?_ ?_
        · refine ⟨_, rfl, by rfl, fun K hK => ?_⟩
          go_simp
          refine (all_any _).mono ?_
          rintro e x3 ⟨A1, cc, rfl, hown, hb⟩
          obtain ⟨g2, o2, rfl, hg1, hc⟩ := (Rd.of_own hown).2 (by omega)
          have c1 := hc _ _ D0.out
          have c2 := hc _ _ D1.out
          rw [← Nat.add_assoc] at c2
          have hn1 : ∀ q, q < x2.heap.size → g2 ≠ q := fun q hq e => by have := (hown.lt g2 rfl).1; omega
          have hbw := ext_trans hbw hb
          try have k5 := hn1 _ l5
          try have k6 := hn1 _ l6
          try have HB5 := Lib.hid (HB5.out.below hb)
          try have HB6 := Lib.hid (HB6.out.below hb)
          try have l5 := HB5.out.2.2
          try have l6 := HB6.out.2.2
          refine hK (fun b => False ∨ b = g6) _ _ (fun b h => .inl h) (Mem.of_below hb) ?_
          clear hb hown hc hn1
          clear hK K
          try simp only [Act.put, List.setIfInBounds_toArray, List.set_cons_zero, List.set_cons_succ]
          refine rgx_q (v := ?_) (some 15) 7 (by kernel_rfl) rfl rfl (by rfl) (fun w' hw K hK => ?_) ?_
          rotate_left
          · go_simp
            refine (HM2.out _).mono ?_
            rintro e w1 ⟨rfl, rfl⟩
            exact hK
          try simp only [Act.put, List.setIfInBounds_toArray, List.set_cons_zero, List.set_cons_succ]
          refine rgx_t (v := ?_) (some 16) 8 (by kernel_rfl) rfl rfl (.inl ⟨by rfl, fun w' q => ?_⟩) ?_
          rotate_left
          · go_simp <;> with_reducible rfl
          try simp only [Act.put, List.setIfInBounds_toArray, List.set_cons_zero, List.set_cons_succ]
          refine rgx_t (v := ?_) (some 17) 9 (by kernel_rfl) rfl rfl (.inl ⟨by rfl, fun w' q => ?_⟩) ?_
          rotate_left
          · go_simp <;> with_reducible rfl
          try simp only [Act.put, List.setIfInBounds_toArray, List.set_cons_zero, List.set_cons_succ]
          refine rgx_1 10 (by kernel_rfl) ?_
          refine ⟨_, rfl, by rfl, fun K hK => ?_⟩
          go_simp
          obtain ⟨g5, hg⟩ : ∃ g, x3.heap.size = g := ⟨_, rfl⟩
          obtain ⟨x4, hW⟩ : ∃ W, x3.alloc (.cells #[.int .i64 0, .int .i64 0] 23) = W := ⟨_, rfl⟩
          have hb : Below x3.heap.size x3 x4 := hW ▸ (Below.refl _ _).alloc (Nat.le_refl _) _
          have HB5 := Lib.hid (show Box x4 g5 #[.int .i64 0, .int .i64 0] from hW ▸ hg ▸ Box.alloc_)
          rw [hW, hg]
          have m5 : w.heap.size ≤ g5 := hg ▸ hbw.size
          have hbw := ext_trans hbw hb
          try have h56 : g5 ≠ g6 := by omega
          try have HB6 := Lib.hid (HB6.out.below hb)
          try have l6 := HB6.out.2.2
          have l5 := HB5.out.2.2
          refine hK (fun b => False ∨ b = g6 ∨ b = g5) _ _ (fun b h => by simp only [false_or] at h ⊢; omega) (Mem.of_below hb) ?_
          clear hb hW hg
          clear hK K
          try simp only [Act.put, List.setIfInBounds_toArray, List.set_cons_zero, List.set_cons_succ]
          refine rgx_1 12 (by kernel_rfl) ?_
          refine ⟨_, rfl, by rfl, fun K hK => ?_⟩
          obtain ⟨q5, z5, y5⟩ := HB5.out
          go_simp
          have hB := ((HB5.out.set (k := 0) (v := .int .i64 b) (cs' := #[.int .i64 b, .int .i64 0]) (by simp) rfl).set (k := 1) (v := .int .i64 p) (cs' := #[.int .i64 b, .int .i64 p]) (by simp) rfl)
          have hg := one_set (one_set (one_refl x4 g5) 0 (.int .i64 b)) 1 (.int .i64 p)
          have hm : Mem (fun b => False ∨ b = g6 ∨ b = g5) x4 ((x4.setCell ⟨g5, 0, none⟩ (.int .i64 b)).setCell ⟨g5, 1, none⟩ (.int .i64 p)) := ((Mem.refl _ _).of_set (by simp)).of_set (by simp)
          have hbw := (hbw.setCell (p := ⟨g5, 0, none⟩) m5 (.int .i64 b)).setCell (p := ⟨g5, 1, none⟩) m5 (.int .i64 p)
          try have HB6 := Lib.hid (HB6.out.grown hg (Ne.symm h56))
          obtain ⟨x5, hW⟩ : ∃ W, ((x4.setCell ⟨g5, 0, none⟩ (.int .i64 b)).setCell ⟨g5, 1, none⟩ (.int .i64 p)) = W := ⟨_, rfl⟩
          rw [hW] at hm hbw hB ⊢
          try rw [hW] at HB6
          have HB5 := Lib.hid hB
          try have l6 := HB6.out.2.2
          have l5 := HB5.out.2.2
          refine hK (fun b => False ∨ b = g6 ∨ b = g5) _ _ (fun b h => .inl h) hm ?_
          clear hm hW hg hB q5 z5 y5
          clear hK K
          try simp only [Act.put, List.setIfInBounds_toArray, List.set_cons_zero, List.set_cons_succ]
          refine rgx_1 13 (by kernel_rfl) ?_
          refine ⟨_, rfl, by rfl, fun K hK => ?_⟩
          obtain ⟨q5, z5, y5⟩ := HB6.out
          go_simp
          have hB := ((HB6.out.set (k := 0) (v := .int .i64 b2) (cs' := #[.int .i64 b2, .int .i64 0]) (by simp) rfl).set (k := 1) (v := .int .i64 p2) (cs' := #[.int .i64 b2, .int .i64 p2]) (by simp) rfl)
          have hg := one_set (one_set (one_refl x5 g6) 0 (.int .i64 b2)) 1 (.int .i64 p2)
          have hm : Mem (fun b => False ∨ b = g6 ∨ b = g5) x5 ((x5.setCell ⟨g6, 0, none⟩ (.int .i64 b2)).setCell ⟨g6, 1, none⟩ (.int .i64 p2)) := ((Mem.refl _ _).of_set (by simp)).of_set (by simp)
          have hbw := (hbw.setCell (p := ⟨g6, 0, none⟩) m6 (.int .i64 b2)).setCell (p := ⟨g6, 1, none⟩) m6 (.int .i64 p2)
          try have HB5 := Lib.hid (HB5.out.grown hg h56)
          obtain ⟨x6, hW⟩ : ∃ W, ((x5.setCell ⟨g6, 0, none⟩ (.int .i64 b2)).setCell ⟨g6, 1, none⟩ (.int .i64 p2)) = W := ⟨_, rfl⟩
          rw [hW] at hm hbw hB ⊢
          try rw [hW] at HB5
          have HB6 := Lib.hid hB
          try have l5 := HB5.out.2.2
          have l6 := HB6.out.2.2
          refine hK (fun b => False ∨ b = g6 ∨ b = g5) _ _ (fun b h => .inl h) hm ?_
          clear hm hW hg hB q5 z5 y5
          clear hK K
          try simp only [Act.put, List.setIfInBounds_toArray, List.set_cons_zero, List.set_cons_succ]
          refine rgx_d (by kernel_rfl) ?_
          go_wp2_with fail
          go_meet
          case rel => exact ⟨g5, g6, rfl, rfl, HB5.out, HB6.out, hbw⟩
        · refine ⟨_, rfl, by rfl, fun K hK => ?_⟩
          go_simp
          obtain ⟨g5, hg⟩ : ∃ g, x2.heap.size = g := ⟨_, rfl⟩
          obtain ⟨x3, hW⟩ : ∃ W, x2.alloc (.cells #[.int .i64 0, .int .i64 0] 23) = W := ⟨_, rfl⟩
          have hb : Below x2.heap.size x2 x3 := hW ▸ (Below.refl _ _).alloc (Nat.le_refl _) _
          have HB5 := Lib.hid (show Box x3 g5 #[.int .i64 0, .int .i64 0] from hW ▸ hg ▸ Box.alloc_)
          rw [hW, hg]
          have m5 : w.heap.size ≤ g5 := hg ▸ hbw.size
          have hbw := ext_trans hbw hb
          try have h56 : g5 ≠ g6 := by omega
          try have HB6 := Lib.hid (HB6.out.below hb)
          try have l6 := HB6.out.2.2
          have l5 := HB5.out.2.2
          refine hK (fun b => False ∨ b = g6 ∨ b = g5) _ _ (fun b h => by simp only [false_or] at h ⊢; omega) (Mem.of_below hb) ?_
          clear hb hW hg
          clear hK K
          try simp only [Act.put, List.setIfInBounds_toArray, List.set_cons_zero, List.set_cons_succ]
          refine rgx_1 5 (by kernel_rfl) ?_
          refine ⟨_, rfl, by rfl, fun K hK => ?_⟩
          go_simp
          refine (all_any _).mono ?_
          rintro e x4 ⟨A1, cc, rfl, hown, hb⟩
          obtain ⟨g2, o2, rfl, hg1, hc⟩ := (Rd.of_own hown).2 (by omega)
          have c1 := hc _ _ D0.out
          have c2 := hc _ _ D1.out
          rw [← Nat.add_assoc] at c2
          have hn1 : ∀ q, q < x3.heap.size → g2 ≠ q := fun q hq e => by have := (hown.lt g2 rfl).1; omega
          have hbw := ext_trans hbw hb
          try have k5 := hn1 _ l5
          try have k6 := hn1 _ l6
          try have HB5 := Lib.hid (HB5.out.below hb)
          try have HB6 := Lib.hid (HB6.out.below hb)
          try have l5 := HB5.out.2.2
          try have l6 := HB6.out.2.2
          refine hK (fun b => False ∨ b = g6 ∨ b = g5) _ _ (fun b h => .inl h) (Mem.of_below hb) ?_
          clear hb hown hc hn1
          clear hK K
          try simp only [Act.put, List.setIfInBounds_toArray, List.set_cons_zero, List.set_cons_succ]
          refine rgx_q (v := ?_) (some 15) 7 (by kernel_rfl) rfl rfl (by rfl) (fun w' hw K hK => ?_) ?_
          rotate_left
          · go_simp
            refine (HM2.out _).mono ?_
            rintro e w1 ⟨rfl, rfl⟩
            exact hK
          try simp only [Act.put, List.setIfInBounds_toArray, List.set_cons_zero, List.set_cons_succ]
          refine rgx_t (v := ?_) (some 16) 8 (by kernel_rfl) rfl rfl (.inl ⟨by rfl, fun w' q => ?_⟩) ?_
          rotate_left
          · go_simp <;> with_reducible rfl
          try simp only [Act.put, List.setIfInBounds_toArray, List.set_cons_zero, List.set_cons_succ]
          refine rgx_t (v := ?_) (some 17) 9 (by kernel_rfl) rfl rfl (.inl ⟨by rfl, fun w' q => ?_⟩) ?_
          rotate_left
          · go_simp <;> with_reducible rfl
          try simp only [Act.put, List.setIfInBounds_toArray, List.set_cons_zero, List.set_cons_succ]
          refine rgx_1 12 (by kernel_rfl) ?_
          refine ⟨_, rfl, by rfl, fun K hK => ?_⟩
          obtain ⟨q5, z5, y5⟩ := HB5.out
          go_simp
          have hB := ((HB5.out.set (k := 0) (v := .int .i64 b) (cs' := #[.int .i64 b, .int .i64 0]) (by simp) rfl).set (k := 1) (v := .int .i64 p) (cs' := #[.int .i64 b, .int .i64 p]) (by simp) rfl)
          have hg := one_set (one_set (one_refl x4 g5) 0 (.int .i64 b)) 1 (.int .i64 p)
          have hm : Mem (fun b => False ∨ b = g6 ∨ b = g5) x4 ((x4.setCell ⟨g5, 0, none⟩ (.int .i64 b)).setCell ⟨g5, 1, none⟩ (.int .i64 p)) := ((Mem.refl _ _).of_set (by simp)).of_set (by simp)
          have hbw := (hbw.setCell (p := ⟨g5, 0, none⟩) m5 (.int .i64 b)).setCell (p := ⟨g5, 1, none⟩) m5 (.int .i64 p)
          try have HB6 := Lib.hid (HB6.out.grown hg (Ne.symm h56))
          obtain ⟨x5, hW⟩ : ∃ W, ((x4.setCell ⟨g5, 0, none⟩ (.int .i64 b)).setCell ⟨g5, 1, none⟩ (.int .i64 p)) = W := ⟨_, rfl⟩
          rw [hW] at hm hbw hB ⊢
          try rw [hW] at HB6
          have HB5 := Lib.hid hB
          try have l6 := HB6.out.2.2
          have l5 := HB5.out.2.2
          refine hK (fun b => False ∨ b = g6 ∨ b = g5) _ _ (fun b h => .inl h) hm ?_
          clear hm hW hg hB q5 z5 y5
          clear hK K
          try simp only [Act.put, List.setIfInBounds_toArray, List.set_cons_zero, List.set_cons_succ]
          refine rgx_1 13 (by kernel_rfl) ?_
          refine ⟨_, rfl, by rfl, fun K hK => ?_⟩
          obtain ⟨q5, z5, y5⟩ := HB6.out
          go_simp
          have hB := ((HB6.out.set (k := 0) (v := .int .i64 b2) (cs' := #[.int .i64 b2, .int .i64 0]) (by simp) rfl).set (k := 1) (v := .int .i64 p2) (cs' := #[.int .i64 b2, .int .i64 p2]) (by simp) rfl)
          have hg := one_set (one_set (one_refl x5 g6) 0 (.int .i64 b2)) 1 (.int .i64 p2)
          have hm : Mem (fun b => False ∨ b = g6 ∨ b = g5) x5 ((x5.setCell ⟨g6, 0, none⟩ (.int .i64 b2)).setCell ⟨g6, 1, none⟩ (.int .i64 p2)) := ((Mem.refl _ _).of_set (by simp)).of_set (by simp)
          have hbw := (hbw.setCell (p := ⟨g6, 0, none⟩) m6 (.int .i64 b2)).setCell (p := ⟨g6, 1, none⟩) m6 (.int .i64 p2)
          try have HB5 := Lib.hid (HB5.out.grown hg h56)
          obtain ⟨x6, hW⟩ : ∃ W, ((x5.setCell ⟨g6, 0, none⟩ (.int .i64 b2)).setCell ⟨g6, 1, none⟩ (.int .i64 p2)) = W := ⟨_, rfl⟩
          rw [hW] at hm hbw hB ⊢
          try rw [hW] at HB5
          have HB6 := Lib.hid hB
          try have l5 := HB5.out.2.2
          have l6 := HB6.out.2.2
          refine hK (fun b => False ∨ b = g6 ∨ b = g5) _ _ (fun b h => .inl h) hm ?_
          clear hm hW hg hB q5 z5 y5
          clear hK K
          try simp only [Act.put, List.setIfInBounds_toArray, List.set_cons_zero, List.set_cons_succ]
          refine rgx_d (by kernel_rfl) ?_
          go_wp2_with fail
          go_meet
          case rel => exact ⟨g5, g6, rfl, rfl, HB5.out, HB6.out, hbw⟩
      · refine ⟨_, rfl, by rfl, fun K hK => ?_⟩
        go_simp
        obtain ⟨g5, hg⟩ : ∃ g, x1.heap.size = g := ⟨_, rfl⟩
        obtain ⟨x2, hW⟩ : ∃ W, x1.alloc (.cells #[.int .i64 0, .int .i64 0] 23) = W := ⟨_, rfl⟩
        have hb : Below x1.heap.size x1 x2 := hW ▸ (Below.refl _ _).alloc (Nat.le_refl _) _
        have HB5 := Lib.hid (show Box x2 g5 #[.int .i64 0, .int .i64 0] from hW ▸ hg ▸ Box.alloc_)
        rw [hW, hg]
        have m5 : w.heap.size ≤ g5 := hg ▸ hbw.size
        have hbw := ext_trans hbw hb
        try have h56 : g5 ≠ g6 := by omega
        try have HB6 := Lib.hid (HB6.out.below hb)
        try have l6 := HB6.out.2.2
        have l5 := HB5.out.2.2
        refine hK (fun b => False ∨ b = g6 ∨ b = g5) _ _ (fun b h => by simp only [false_or] at h ⊢; omega) (Mem.of_below hb) ?_
        clear hb hW hg
        clear hK K
        try simp only [Act.put, List.setIfInBounds_toArray, List.set_cons_zero, List.set_cons_succ]
        refine rgx_1 0 (by kernel_rfl) ?_
        refine ⟨_, rfl, by rfl, fun K hK => ?_⟩
        go_simp
        refine (all_any _).mono ?_
        rintro e x3 ⟨A1, cc, rfl, hown, hb⟩
        obtain ⟨g1, o1, rfl, hg1, hc⟩ := (Rd.of_own hown).2 (by omega)
        have c1 := hc _ _ E0.out
        have c2 := hc _ _ E1.out
        rw [← Nat.add_assoc] at c2
        have hn1 : ∀ q, q < x2.heap.size → g1 ≠ q := fun q hq e => by have := (hown.lt g1 rfl).1; omega
        have hbw := ext_trans hbw hb
        try have k5 := hn1 _ l5
        try have k6 := hn1 _ l6
        try have HB5 := Lib.hid (HB5.out.below hb)
        try have HB6 := Lib.hid (HB6.out.below hb)
        try have l5 := HB5.out.2.2
        try have l6 := HB6.out.2.2
        refine hK (fun b => False ∨ b = g6 ∨ b = g5) _ _ (fun b h => .inl h) (Mem.of_below hb) ?_
        clear hb hown hc hn1
        clear hK K
        try simp only [Act.put, List.setIfInBounds_toArray, List.set_cons_zero, List.set_cons_succ]
        refine rgx_q (v := ?_) (some 10) 2 (by kernel_rfl) rfl rfl (by rfl) (fun w' hw K hK => ?_) ?_
        rotate_left
        · go_simp
          refine (HM.out _).mono ?_
          rintro e w1 ⟨rfl, rfl⟩
          exact hK
        try simp only [Act.put, List.setIfInBounds_toArray, List.set_cons_zero, List.set_cons_succ]
        refine rgx_t (v := ?_) (some 11) 3 (by kernel_rfl) rfl rfl (.inl ⟨by rfl, fun w' q => ?_⟩) ?_
        rotate_left
        · go_simp <;> with_reducible rfl
        try simp only [Act.put, List.setIfInBounds_toArray, List.set_cons_zero, List.set_cons_succ]
        refine rgx_t (v := ?_) (some 12) 4 (by kernel_rfl) rfl rfl (.inl ⟨by rfl, fun w' q => ?_⟩) ?_
        rotate_left
        · go_simp <;> with_reducible rfl
        try simp only [Act.put, List.setIfInBounds_toArray, List.set_cons_zero, List.set_cons_succ]
        refine rgx_1 5 (by kernel_rfl) ?_
        refine ⟨_, rfl, by rfl, fun K hK => ?_⟩
        go_simp
        refine (all_any _).mono ?_
        rintro e x4 ⟨A1, cc, rfl, hown, hb⟩
        obtain ⟨g2, o2, rfl, hg1, hc⟩ := (Rd.of_own hown).2 (by omega)
        have c1 := hc _ _ D0.out
        have c2 := hc _ _ D1.out
        rw [← Nat.add_assoc] at c2
        have hn1 : ∀ q, q < x3.heap.size → g2 ≠ q := fun q hq e => by have := (hown.lt g2 rfl).1; omega
        have hbw := ext_trans hbw hb
        try have k5 := hn1 _ l5
        try have k6 := hn1 _ l6
        try have HB5 := Lib.hid (HB5.out.below hb)
        try have HB6 := Lib.hid (HB6.out.below hb)
        try have l5 := HB5.out.2.2
        try have l6 := HB6.out.2.2
        refine hK (fun b => False ∨ b = g6 ∨ b = g5) _ _ (fun b h => .inl h) (Mem.of_below hb) ?_
        clear hb hown hc hn1
        clear hK K
        try simp only [Act.put, List.setIfInBounds_toArray, List.set_cons_zero, List.set_cons_succ]
        refine rgx_q (v := ?_) (some 15) 7 (by kernel_rfl) rfl rfl (by rfl) (fun w' hw K hK => ?_) ?_
        rotate_left
        · go_simp
          refine (HM2.out _).mono ?_
          rintro e w1 ⟨rfl, rfl⟩
          exact hK
        try simp only [Act.put, List.setIfInBounds_toArray, List.set_cons_zero, List.set_cons_succ]
        refine rgx_t (v := ?_) (some 16) 8 (by kernel_rfl) rfl rfl (.inl ⟨by rfl, fun w' q => ?_⟩) ?_
        rotate_left
        · go_simp <;> with_reducible rfl
        try simp only [Act.put, List.setIfInBounds_toArray, List.set_cons_zero, List.set_cons_succ]
        refine rgx_t (v := ?_) (some 17) 9 (by kernel_rfl) rfl rfl (.inl ⟨by rfl, fun w' q => ?_⟩) ?_
        rotate_left
        · go_simp <;> with_reducible rfl
        try simp only [Act.put, List.setIfInBounds_toArray, List.set_cons_zero, List.set_cons_succ]
        refine rgx_1 12 (by kernel_rfl) ?_
        refine ⟨_, rfl, by rfl, fun K hK => ?_⟩
        obtain ⟨q5, z5, y5⟩ := HB5.out
        go_simp
        have hB := ((HB5.out.set (k := 0) (v := .int .i64 b) (cs' := #[.int .i64 b, .int .i64 0]) (by simp) rfl).set (k := 1) (v := .int .i64 p) (cs' := #[.int .i64 b, .int .i64 p]) (by simp) rfl)
        have hg := one_set (one_set (one_refl x4 g5) 0 (.int .i64 b)) 1 (.int .i64 p)
        have hm : Mem (fun b => False ∨ b = g6 ∨ b = g5) x4 ((x4.setCell ⟨g5, 0, none⟩ (.int .i64 b)).setCell ⟨g5, 1, none⟩ (.int .i64 p)) := ((Mem.refl _ _).of_set (by simp)).of_set (by simp)
        have hbw := (hbw.setCell (p := ⟨g5, 0, none⟩) m5 (.int .i64 b)).setCell (p := ⟨g5, 1, none⟩) m5 (.int .i64 p)
        try have HB6 := Lib.hid (HB6.out.grown hg (Ne.symm h56))
        obtain ⟨x5, hW⟩ : ∃ W, ((x4.setCell ⟨g5, 0, none⟩ (.int .i64 b)).setCell ⟨g5, 1, none⟩ (.int .i64 p)) = W := ⟨_, rfl⟩
        rw [hW] at hm hbw hB ⊢
        try rw [hW] at HB6
        have HB5 := Lib.hid hB
        try have l6 := HB6.out.2.2
        have l5 := HB5.out.2.2
        refine hK (fun b => False ∨ b = g6 ∨ b = g5) _ _ (fun b h => .inl h) hm ?_
        clear hm hW hg hB q5 z5 y5
        clear hK K
        try simp only [Act.put, List.setIfInBounds_toArray, List.set_cons_zero, List.set_cons_succ]
        refine rgx_1 13 (by kernel_rfl) ?_
        refine ⟨_, rfl, by rfl, fun K hK => ?_⟩
        obtain ⟨q5, z5, y5⟩ := HB6.out
        go_simp
        have hB := ((HB6.out.set (k := 0) (v := .int .i64 b2) (cs' := #[.int .i64 b2, .int .i64 0]) (by simp) rfl).set (k := 1) (v := .int .i64 p2) (cs' := #[.int .i64 b2, .int .i64 p2]) (by simp) rfl)
        have hg := one_set (one_set (one_refl x5 g6) 0 (.int .i64 b2)) 1 (.int .i64 p2)
        have hm : Mem (fun b => False ∨ b = g6 ∨ b = g5) x5 ((x5.setCell ⟨g6, 0, none⟩ (.int .i64 b2)).setCell ⟨g6, 1, none⟩ (.int .i64 p2)) := ((Mem.refl _ _).of_set (by simp)).of_set (by simp)
        have hbw := (hbw.setCell (p := ⟨g6, 0, none⟩) m6 (.int .i64 b2)).setCell (p := ⟨g6, 1, none⟩) m6 (.int .i64 p2)
        try have HB5 := Lib.hid (HB5.out.grown hg h56)
        obtain ⟨x6, hW⟩ : ∃ W, ((x5.setCell ⟨g6, 0, none⟩ (.int .i64 b2)).setCell ⟨g6, 1, none⟩ (.int .i64 p2)) = W := ⟨_, rfl⟩
        rw [hW] at hm hbw hB ⊢
        try rw [hW] at HB5
        have HB6 := Lib.hid hB
        try have l5 := HB5.out.2.2
        have l6 := HB6.out.2.2
        refine hK (fun b => False ∨ b = g6 ∨ b = g5) _ _ (fun b h => .inl h) hm ?_
        clear hm hW hg hB q5 z5 y5
        clear hK K
        try simp only [Act.put, List.setIfInBounds_toArray, List.set_cons_zero, List.set_cons_succ]
        refine rgx_d (by kernel_rfl) ?_
        go_wp2_with fail
        go_meet
        case rel => exact ⟨g5, g6, rfl, rfl, HB5.out, HB6.out, hbw⟩
  case rest =>
    obtain ⟨g5, g6, rfl, rfl, hB5, hB6, hbw⟩ := hcut
    have HB5 := Lib.hid hB5
    have HB6 := Lib.hid hB6
    have y0 : wc.cell? ⟨g5, 0, none⟩ = some (.int .i64 b) := hB5.1 0
    have y1 : wc.cell? ⟨g5, 1, none⟩ = some (.int .i64 p) := hB5.1 1
    clear hB5 hB6
    obtain ⟨hcb1, hcb2⟩ := HCB.out
    obtain ⟨hbb1, hbb2⟩ := HBB.out
    go_wp2_with fail
    refine (HC.out _).mono ?_
    rintro e y1' ⟨rfl, hb1⟩
    have hbc0 : Below wc.heap.size wc y1'.drew := below_drew hb1
    have hsub : (c - 1) * b = c * b - b := by rw [Int.sub_mul, Int.one_mul]
    have hx1 := HX1.out
    have hx2 := HX2.out
    have hx3 := HX3.out
    have hx4 := HX4.out
    have hcm := HCM.out
    have k1 : IntKind.i64.wrap (c * b) = c * b := IntWalk.i64_in _ ⟨by omega, by omega⟩
    have k2 : decide (c * b < 11000000) = false := by simp; omega
    have k3 : IntKind.i64.wrap (c - 1) = c - 1 := IntWalk.i64_in _ ⟨by omega, by omega⟩
    have k4 : IntKind.i64.wrap ((c - 1) * b) = (c - 1) * b := IntWalk.i64_in _ ⟨by omega, by omega⟩
    have k5 : decide (11000000 ≤ (c - 1) * b) = false := by simp; omega
    have k6 : decide (u ≤ t) = false := by simp; omega
    have k7 : decide (t < 750) = false := by simp; omega
    clear hsub hx1 hx2 hx3 hx4 hcm y0 y1
    go_wp2_with fail
    have hS : (∀ i, y1'.drew.cell? ⟨g5, i, none⟩ = (#[.int .i64 b, .int .i64 p] : Array Value)[i]?) ∧ (∀ i, y1'.drew.cell? ⟨g6, i, none⟩ = (#[.int .i64 b2, .int .i64 p2] : Array Value)[i]?) ∧ True := ⟨(HB5.out.below hbc0).1, (HB6.out.below hbc0).1, trivial⟩
    refine rgs_start (fun w' => (∀ i, w'.cell? ⟨g5, i, none⟩ = (#[.int .i64 b, .int .i64 p] : Array Value)[i]?) ∧ (∀ i, w'.cell? ⟨g6, i, none⟩ = (#[.int .i64 b2, .int .i64 p2] : Array Value)[i]?) ∧ True) (by kernel_rfl) ?_
    refine rgs_t (v := ?_) (some 20) 0 (by kernel_rfl) rfl rfl (by assumption) (.inl ⟨by rfl, fun w' hw => ?_⟩) ?_
    rotate_left
    · obtain ⟨q1, q2, q3⟩ := hw; go_simp <;> with_reducible rfl
    try simp only [Act.put, List.setIfInBounds_toArray, List.set_cons_zero, List.set_cons_succ]
    refine rgs_t (v := ?_) (some 21) 1 (by kernel_rfl) rfl rfl (by assumption) (.inl ⟨by rfl, fun w' hw => ?_⟩) ?_
    rotate_left
    · obtain ⟨q1, q2, q3⟩ := hw; go_simp <;> with_reducible rfl
    try simp only [Act.put, List.setIfInBounds_toArray, List.set_cons_zero, List.set_cons_succ]
    refine rgs_t (v := ?_) (some 22) 2 (by kernel_rfl) rfl rfl (by assumption) (.inl ⟨by rfl, fun w' hw => ?_⟩) ?_
    rotate_left
    · obtain ⟨q1, q2, q3⟩ := hw; go_simp <;> with_reducible rfl
    try simp only [Act.put, List.setIfInBounds_toArray, List.set_cons_zero, List.set_cons_succ]
    refine rgs_t (v := ?_) (some 23) 3 (by kernel_rfl) rfl rfl (by assumption) (.inl ⟨by rfl, fun w' hw => ?_⟩) ?_
    rotate_left
    · obtain ⟨q1, q2, q3⟩ := hw; go_simp <;> with_reducible rfl
    try simp only [Act.put, List.setIfInBounds_toArray, List.set_cons_zero, List.set_cons_succ]
    refine rgs_t (v := ?_) (some 24) 4 (by kernel_rfl) rfl rfl (by assumption) (.inl ⟨by rfl, fun w' hw => ?_⟩) ?_
    rotate_left
    · obtain ⟨q1, q2, q3⟩ := hw; go_simp <;> with_reducible rfl
    try simp only [Act.put, List.setIfInBounds_toArray, List.set_cons_zero, List.set_cons_succ]
    refine rgs_t (v := ?_) (some 25) 5 (by kernel_rfl) rfl rfl (by assumption) (.inl ⟨by rfl, fun w' hw => ?_⟩) ?_
    rotate_left
    · obtain ⟨q1, q2, q3⟩ := hw; go_simp <;> with_reducible rfl
    try simp only [Act.put, List.setIfInBounds_toArray, List.set_cons_zero, List.set_cons_succ]
    refine rgs_t (v := ?_) (some 26) 6 (by kernel_rfl) rfl rfl (by assumption) (.inl ⟨by rfl, fun w' hw => ?_⟩) ?_
    rotate_left
    · obtain ⟨q1, q2, q3⟩ := hw; go_simp <;> with_reducible rfl
    try simp only [Act.put, List.setIfInBounds_toArray, List.set_cons_zero, List.set_cons_succ]
    refine rgs_t (v := ?_) (some 27) 7 (by kernel_rfl) rfl rfl (by assumption) (.inl ⟨by rfl, fun w' hw => ?_⟩) ?_
    rotate_left
    · obtain ⟨q1, q2, q3⟩ := hw; go_simp <;> with_reducible rfl
    try simp only [Act.put, List.setIfInBounds_toArray, List.set_cons_zero, List.set_cons_succ]
    refine rgs_t (v := ?_) (some 28) 8 (by kernel_rfl) rfl rfl (by assumption) (.inl ⟨by rfl, fun w' hw => ?_⟩) ?_
    rotate_left
    · obtain ⟨q1, q2, q3⟩ := hw; go_simp <;> with_reducible rfl
    try simp only [Act.put, List.setIfInBounds_toArray, List.set_cons_zero, List.set_cons_succ]
    refine rgs_t (v := ?_) (some 29) 9 (by kernel_rfl) rfl rfl (by assumption) (.inl ⟨by rfl, fun w' hw => ?_⟩) ?_
    rotate_left
    · obtain ⟨q1, q2, q3⟩ := hw; go_simp <;> with_reducible rfl
    try simp only [Act.put, List.setIfInBounds_toArray, List.set_cons_zero, List.set_cons_succ]
    refine rgs_t (v := ?_) (some 30) 10 (by kernel_rfl) rfl rfl (by assumption) (.inl ⟨by rfl, fun w' hw => ?_⟩) ?_
    rotate_left
    · obtain ⟨q1, q2, q3⟩ := hw; go_simp <;> with_reducible rfl
    try simp only [Act.put, List.setIfInBounds_toArray, List.set_cons_zero, List.set_cons_succ]
    refine rgs_t (v := ?_) (some 31) 11 (by kernel_rfl) rfl rfl (by assumption) (.inl ⟨by rfl, fun w' hw => ?_⟩) ?_
    rotate_left
    · obtain ⟨q1, q2, q3⟩ := hw; go_simp <;> with_reducible rfl
    try simp only [Act.put, List.setIfInBounds_toArray, List.set_cons_zero, List.set_cons_succ]
    refine rgs_t (v := ?_) (some 32) 12 (by kernel_rfl) rfl rfl (by assumption) (.inl ⟨by rfl, fun w' hw => ?_⟩) ?_
    rotate_left
    · obtain ⟨q1, q2, q3⟩ := hw; go_simp <;> with_reducible rfl
    try simp only [Act.put, List.setIfInBounds_toArray, List.set_cons_zero, List.set_cons_succ]
    refine rgs_t (v := ?_) (some 33) 13 (by kernel_rfl) rfl rfl (by assumption) (.inl ⟨by rfl, fun w' hw => ?_⟩) ?_
    rotate_left
    · obtain ⟨q1, q2, q3⟩ := hw; go_simp <;> with_reducible rfl
    try simp only [Act.put, List.setIfInBounds_toArray, List.set_cons_zero, List.set_cons_succ]
    refine rgs_t (v := ?_) (some 34) 14 (by kernel_rfl) rfl rfl (by assumption) (.inl ⟨by rfl, fun w' hw => ?_⟩) ?_
    rotate_left
    · obtain ⟨q1, q2, q3⟩ := hw; go_simp <;> with_reducible rfl
    try simp only [Act.put, List.setIfInBounds_toArray, List.set_cons_zero, List.set_cons_succ]
    refine rgs_t (v := ?_) (some 36) 16 (by kernel_rfl) rfl rfl (by assumption) (.inl ⟨by rfl, fun w' hw => ?_⟩) ?_
    rotate_left
    · obtain ⟨q1, q2, q3⟩ := hw; go_simp <;> with_reducible rfl
    try simp only [Act.put, List.setIfInBounds_toArray, List.set_cons_zero, List.set_cons_succ]
    refine rgs_c 15 (by kernel_rfl) rfl (by rfl) (fun K hK => ?_)
    go_simp
    refine (HT.out _).mono ?_
    rintro e y1 ⟨rfl, hb1⟩
    have hbc1 := ext_trans hbc0 hb1
    have hS1 : (∀ i, y1.cell? ⟨g5, i, none⟩ = (#[.int .i64 b, .int .i64 p] : Array Value)[i]?) ∧ (∀ i, y1.cell? ⟨g6, i, none⟩ = (#[.int .i64 b2, .int .i64 p2] : Array Value)[i]?) ∧ True := ⟨(HB5.out.below hbc1).1, (HB6.out.below hbc1).1, trivial⟩
    refine hK _ _ hS1 ?_
    clear hK K
    try simp only [Act.put, List.setIfInBounds_toArray, List.set_cons_zero, List.set_cons_succ]
    refine rgs_c 17 (by kernel_rfl) rfl (by rfl) (fun K hK => ?_)
    go_simp
    refine (HU.out _).mono ?_
    rintro e y2 ⟨rfl, hb2⟩
    have hbc2 := ext_trans hbc1 hb2
    have hS2 : (∀ i, y2.cell? ⟨g5, i, none⟩ = (#[.int .i64 b, .int .i64 p] : Array Value)[i]?) ∧ (∀ i, y2.cell? ⟨g6, i, none⟩ = (#[.int .i64 b2, .int .i64 p2] : Array Value)[i]?) ∧ True := ⟨(HB5.out.below hbc2).1, (HB6.out.below hbc2).1, trivial⟩
    refine hK _ _ hS2 ?_
    clear hK K
    try simp only [Act.put, List.setIfInBounds_toArray, List.set_cons_zero, List.set_cons_succ]
    refine rgs_t (v := ?_) (some 38) 18 (by kernel_rfl) rfl rfl (by assumption) (.inl ⟨by rfl, fun w' hw => ?_⟩) ?_
    rotate_left
    · obtain ⟨q1, q2, q3⟩ := hw; go_simp <;> with_reducible rfl
    try simp only [Act.put, List.setIfInBounds_toArray, List.set_cons_zero, List.set_cons_succ]
    refine rgs_t (v := ?_) (some 39) 19 (by kernel_rfl) rfl rfl (by assumption) (.inl ⟨by rfl, fun w' hw => ?_⟩) ?_
    rotate_left
    · obtain ⟨q1, q2, q3⟩ := hw; go_simp <;> with_reducible rfl
    try simp only [Act.put, List.setIfInBounds_toArray, List.set_cons_zero, List.set_cons_succ]
    refine rgs_t (v := ?_) (some 40) 20 (by kernel_rfl) rfl rfl (by assumption) (.inl ⟨by rfl, fun w' hw => ?_⟩) ?_
    rotate_left
    · obtain ⟨q1, q2, q3⟩ := hw; go_simp <;> with_reducible rfl
    try simp only [Act.put, List.setIfInBounds_toArray, List.set_cons_zero, List.set_cons_succ]
    refine rgs_t (v := ?_) (some 41) 21 (by kernel_rfl) rfl rfl (by assumption) (.inl ⟨by rfl, fun w' hw => ?_⟩) ?_
    rotate_left
    · obtain ⟨q1, q2, q3⟩ := hw; go_simp <;> with_reducible rfl
    try simp only [Act.put, List.setIfInBounds_toArray, List.set_cons_zero, List.set_cons_succ]
    refine rgs_c 22 (by kernel_rfl) rfl (by rfl) (fun K hK => ?_)
    go_simp
    refine (HT.out _).mono ?_
    rintro e y3 ⟨rfl, hb3⟩
    have hbc3 := ext_trans hbc2 hb3
    have hS3 : (∀ i, y3.cell? ⟨g5, i, none⟩ = (#[.int .i64 b, .int .i64 p] : Array Value)[i]?) ∧ (∀ i, y3.cell? ⟨g6, i, none⟩ = (#[.int .i64 b2, .int .i64 p2] : Array Value)[i]?) ∧ True := ⟨(HB5.out.below hbc3).1, (HB6.out.below hbc3).1, trivial⟩
    refine hK _ _ hS3 ?_
    clear hK K
    try simp only [Act.put, List.setIfInBounds_toArray, List.set_cons_zero, List.set_cons_succ]
    refine rgs_t (v := ?_) (some 43) 23 (by kernel_rfl) rfl rfl (by assumption) (.inl ⟨by rfl, fun w' hw => ?_⟩) ?_
    rotate_left
    · obtain ⟨q1, q2, q3⟩ := hw; go_simp <;> with_reducible rfl
    try simp only [Act.put, List.setIfInBounds_toArray, List.set_cons_zero, List.set_cons_succ]
    refine rgs_t (v := ?_) (some 44) 24 (by kernel_rfl) rfl rfl (by assumption) (.inl ⟨by rfl, fun w' hw => ?_⟩) ?_
    rotate_left
    · obtain ⟨q1, q2, q3⟩ := hw; go_simp <;> with_reducible rfl
    try simp only [Act.put, List.setIfInBounds_toArray, List.set_cons_zero, List.set_cons_succ]
    refine rgs_d (by kernel_rfl) ?_
    clear k1 k2 k3 k4 k5 k6 k7 hS hS1 hS2
    by_cases hlt : b2 < b
    · have k8 : decide (b2 < b) = true := by simpa using hlt
      go_wp2_with fail
      have hbd3 := below_drew hbc3
      have hS : (∀ i, y3.drew.cell? ⟨g5, i, none⟩ = (#[.int .i64 b, .int .i64 p] : Array Value)[i]?) ∧ (∀ i, y3.drew.cell? ⟨g6, i, none⟩ = (#[.int .i64 b2, .int .i64 p2] : Array Value)[i]?) ∧ True := ⟨(HB5.out.below hbd3).1, (HB6.out.below hbd3).1, trivial⟩
      refine rgs_start (fun w' => (∀ i, w'.cell? ⟨g5, i, none⟩ = (#[.int .i64 b, .int .i64 p] : Array Value)[i]?) ∧ (∀ i, w'.cell? ⟨g6, i, none⟩ = (#[.int .i64 b2, .int .i64 p2] : Array Value)[i]?) ∧ True) (by kernel_rfl) ?_
      refine rgs_c 0 (by kernel_rfl) rfl (by rfl) (fun K hK => ?_)
      go_simp
      refine (awake_any _).mono ?_
      rintro e y4 ⟨rfl, hb4⟩
      have hbc4 := ext_trans hbd3 hb4
      have hS4 : (∀ i, y4.cell? ⟨g5, i, none⟩ = (#[.int .i64 b, .int .i64 p] : Array Value)[i]?) ∧ (∀ i, y4.cell? ⟨g6, i, none⟩ = (#[.int .i64 b2, .int .i64 p2] : Array Value)[i]?) ∧ True := ⟨(HB5.out.below hbc4).1, (HB6.out.below hbc4).1, trivial⟩
      refine hK _ _ hS4 ?_
      clear hK K
      try simp only [Act.put, List.setIfInBounds_toArray, List.set_cons_zero, List.set_cons_succ]
      refine rgs_t (v := ?_) (some 46) 1 (by kernel_rfl) rfl rfl (by assumption) (.inl ⟨by rfl, fun w' hw => ?_⟩) ?_
      rotate_left
      · obtain ⟨q1, q2, q3⟩ := hw; go_simp <;> with_reducible rfl
      try simp only [Act.put, List.setIfInBounds_toArray, List.set_cons_zero, List.set_cons_succ]
      refine rgs_t (v := ?_) (some 47) 2 (by kernel_rfl) rfl rfl (by assumption) (.inl ⟨by rfl, fun w' hw => ?_⟩) ?_
      rotate_left
      · obtain ⟨q1, q2, q3⟩ := hw; go_simp <;> with_reducible rfl
      try simp only [Act.put, List.setIfInBounds_toArray, List.set_cons_zero, List.set_cons_succ]
      refine rgs_t (v := ?_) (some 48) 3 (by kernel_rfl) rfl rfl (by assumption) (.inl ⟨by rfl, fun w' hw => ?_⟩) ?_
      rotate_left
      · obtain ⟨q1, q2, q3⟩ := hw; go_simp <;> with_reducible rfl
      try simp only [Act.put, List.setIfInBounds_toArray, List.set_cons_zero, List.set_cons_succ]
      refine rgs_t (v := ?_) (some 49) 4 (by kernel_rfl) rfl rfl (by assumption) (.inl ⟨by rfl, fun w' hw => ?_⟩) ?_
      rotate_left
      · obtain ⟨q1, q2, q3⟩ := hw; go_simp <;> with_reducible rfl
      try simp only [Act.put, List.setIfInBounds_toArray, List.set_cons_zero, List.set_cons_succ]
      refine rgs_t (v := ?_) (some 50) 5 (by kernel_rfl) rfl rfl (by assumption) (.inl ⟨by rfl, fun w' hw => ?_⟩) ?_
      rotate_left
      · obtain ⟨q1, q2, q3⟩ := hw; go_simp <;> with_reducible rfl
      try simp only [Act.put, List.setIfInBounds_toArray, List.set_cons_zero, List.set_cons_succ]
      refine rgs_t (v := ?_) (some 51) 6 (by kernel_rfl) rfl rfl (by assumption) (.inl ⟨by rfl, fun w' hw => ?_⟩) ?_
      rotate_left
      · obtain ⟨q1, q2, q3⟩ := hw; go_simp <;> with_reducible rfl
      try simp only [Act.put, List.setIfInBounds_toArray, List.set_cons_zero, List.set_cons_succ]
      refine rgs_t (v := ?_) (some 52) 7 (by kernel_rfl) rfl rfl (by assumption) (.inl ⟨by rfl, fun w' hw => ?_⟩) ?_
      rotate_left
      · obtain ⟨q1, q2, q3⟩ := hw; go_simp <;> with_reducible rfl
      try simp only [Act.put, List.setIfInBounds_toArray, List.set_cons_zero, List.set_cons_succ]
      refine rgs_t (some 53) 8 (by kernel_rfl) rfl rfl (by assumption) (.inr ⟨by rfl, rfl⟩) ?_
      try simp only [Act.put, List.setIfInBounds_toArray, List.set_cons_zero, List.set_cons_succ]
      refine rgs_t (some 54) 9 (by kernel_rfl) rfl rfl (by assumption) (.inr ⟨by rfl, rfl⟩) ?_
      try simp only [Act.put, List.setIfInBounds_toArray, List.set_cons_zero, List.set_cons_succ]
      refine rgs_t (some 55) 10 (by kernel_rfl) rfl rfl (by assumption) (.inr ⟨by rfl, rfl⟩) ?_
      try simp only [Act.put, List.setIfInBounds_toArray, List.set_cons_zero, List.set_cons_succ]
      refine rgs_t (some 56) 11 (by kernel_rfl) rfl rfl (by assumption) (.inr ⟨by rfl, rfl⟩) ?_
      try simp only [Act.put, List.setIfInBounds_toArray, List.set_cons_zero, List.set_cons_succ]
      refine rgs_t (some 57) 12 (by kernel_rfl) rfl rfl (by assumption) (.inr ⟨by rfl, rfl⟩) ?_
      try simp only [Act.put, List.setIfInBounds_toArray, List.set_cons_zero, List.set_cons_succ]
      refine rgs_t (some 58) 13 (by kernel_rfl) rfl rfl (by assumption) (.inr ⟨by rfl, rfl⟩) ?_
      try simp only [Act.put, List.setIfInBounds_toArray, List.set_cons_zero, List.set_cons_succ]
      refine rgs_t (some 59) 14 (by kernel_rfl) rfl rfl (by assumption) (.inr ⟨by rfl, rfl⟩) ?_
      try simp only [Act.put, List.setIfInBounds_toArray, List.set_cons_zero, List.set_cons_succ]
      refine rgs_t (some 60) 15 (by kernel_rfl) rfl rfl (by assumption) (.inr ⟨by rfl, rfl⟩) ?_
      try simp only [Act.put, List.setIfInBounds_toArray, List.set_cons_zero, List.set_cons_succ]
      refine rgs_t (some 61) 16 (by kernel_rfl) rfl rfl (by assumption) (.inr ⟨by rfl, rfl⟩) ?_
      try simp only [Act.put, List.setIfInBounds_toArray, List.set_cons_zero, List.set_cons_succ]
      refine rgs_t (some 62) 17 (by kernel_rfl) rfl rfl (by assumption) (.inr ⟨by rfl, rfl⟩) ?_
      try simp only [Act.put, List.setIfInBounds_toArray, List.set_cons_zero, List.set_cons_succ]
      refine rgs_t (some 63) 18 (by kernel_rfl) rfl rfl (by assumption) (.inr ⟨by rfl, rfl⟩) ?_
      try simp only [Act.put, List.setIfInBounds_toArray, List.set_cons_zero, List.set_cons_succ]
      refine rgs_t (some 64) 19 (by kernel_rfl) rfl rfl (by assumption) (.inr ⟨by rfl, rfl⟩) ?_
      try simp only [Act.put, List.setIfInBounds_toArray, List.set_cons_zero, List.set_cons_succ]
      refine rgs_t (some 65) 20 (by kernel_rfl) rfl rfl (by assumption) (.inr ⟨by rfl, rfl⟩) ?_
      try simp only [Act.put, List.setIfInBounds_toArray, List.set_cons_zero, List.set_cons_succ]
      refine rgs_t (some 66) 21 (by kernel_rfl) rfl rfl (by assumption) (.inr ⟨by rfl, rfl⟩) ?_
      try simp only [Act.put, List.setIfInBounds_toArray, List.set_cons_zero, List.set_cons_succ]
      refine rgs_t (some 67) 22 (by kernel_rfl) rfl rfl (by assumption) (.inr ⟨by rfl, rfl⟩) ?_
      try simp only [Act.put, List.setIfInBounds_toArray, List.set_cons_zero, List.set_cons_succ]
      refine rgs_t (some 68) 23 (by kernel_rfl) rfl rfl (by assumption) (.inr ⟨by rfl, rfl⟩) ?_
      try simp only [Act.put, List.setIfInBounds_toArray, List.set_cons_zero, List.set_cons_succ]
      refine rgs_t (some 69) 24 (by kernel_rfl) rfl rfl (by assumption) (.inr ⟨by rfl, rfl⟩) ?_
      try simp only [Act.put, List.setIfInBounds_toArray, List.set_cons_zero, List.set_cons_succ]
      refine rgs_t (some 70) 25 (by kernel_rfl) rfl rfl (by assumption) (.inr ⟨by rfl, rfl⟩) ?_
      try simp only [Act.put, List.setIfInBounds_toArray, List.set_cons_zero, List.set_cons_succ]
      refine rgs_t (some 71) 26 (by kernel_rfl) rfl rfl (by assumption) (.inr ⟨by rfl, rfl⟩) ?_
      try simp only [Act.put, List.setIfInBounds_toArray, List.set_cons_zero, List.set_cons_succ]
      refine rgs_t (v := ?_) (some 72) 27 (by kernel_rfl) rfl rfl (by assumption) (.inl ⟨by rfl, fun w' hw => ?_⟩) ?_
      rotate_left
      · obtain ⟨q1, q2, q3⟩ := hw; go_simp <;> with_reducible rfl
      try simp only [Act.put, List.setIfInBounds_toArray, List.set_cons_zero, List.set_cons_succ]
      refine rgs_t (v := ?_) (some 73) 28 (by kernel_rfl) rfl rfl (by assumption) (.inl ⟨by rfl, fun w' hw => ?_⟩) ?_
      rotate_left
      · obtain ⟨q1, q2, q3⟩ := hw; go_simp <;> with_reducible rfl
      try simp only [Act.put, List.setIfInBounds_toArray, List.set_cons_zero, List.set_cons_succ]
      refine rgs_t (v := ?_) (some 4) 29 (by kernel_rfl) rfl rfl (by assumption) (.inl ⟨by rfl, fun w' hw => ?_⟩) ?_
      rotate_left
      · obtain ⟨q1, q2, q3⟩ := hw; go_simp <;> with_reducible rfl
      try simp only [Act.put, List.setIfInBounds_toArray, List.set_cons_zero, List.set_cons_succ]
      refine rgs_d (by kernel_rfl) ?_
      go_wp2
      go_ret
      exact ⟨rfl, ext_trans hbw hbc4⟩
    · have k8 : decide (b2 < b) = false := by simp; omega
      obtain ⟨m1, m2, m3⟩ := HFS.out (by omega)
      have k9 : decide (c2 ≤ c) = true := by simpa using m1
      have k10 : decide (u2 ≤ u) = true := by simpa using m2
      have k11 : decide (t2 ≤ t) = true := by simpa using m3
      go_wp2_with fail
      have hbd3 := below_drew hbc3
      have hS : (∀ i, y3.drew.cell? ⟨g5, i, none⟩ = (#[.int .i64 b, .int .i64 p] : Array Value)[i]?) ∧ (∀ i, y3.drew.cell? ⟨g6, i, none⟩ = (#[.int .i64 b2, .int .i64 p2] : Array Value)[i]?) ∧ True := ⟨(HB5.out.below hbd3).1, (HB6.out.below hbd3).1, trivial⟩
      refine rgs_start (fun w' => (∀ i, w'.cell? ⟨g5, i, none⟩ = (#[.int .i64 b, .int .i64 p] : Array Value)[i]?) ∧ (∀ i, w'.cell? ⟨g6, i, none⟩ = (#[.int .i64 b2, .int .i64 p2] : Array Value)[i]?) ∧ True) (by kernel_rfl) ?_
      refine rgs_c 0 (by kernel_rfl) rfl (by rfl) (fun K hK => ?_)
      go_simp
      refine (awake_any _).mono ?_
      rintro e y4 ⟨rfl, hb4⟩
      have hbc4 := ext_trans hbd3 hb4
      have hS4 : (∀ i, y4.cell? ⟨g5, i, none⟩ = (#[.int .i64 b, .int .i64 p] : Array Value)[i]?) ∧ (∀ i, y4.cell? ⟨g6, i, none⟩ = (#[.int .i64 b2, .int .i64 p2] : Array Value)[i]?) ∧ True := ⟨(HB5.out.below hbc4).1, (HB6.out.below hbc4).1, trivial⟩
      refine hK _ _ hS4 ?_
      clear hK K
      try simp only [Act.put, List.setIfInBounds_toArray, List.set_cons_zero, List.set_cons_succ]
      refine rgs_t (v := ?_) (some 46) 1 (by kernel_rfl) rfl rfl (by assumption) (.inl ⟨by rfl, fun w' hw => ?_⟩) ?_
      rotate_left
      · obtain ⟨q1, q2, q3⟩ := hw; go_simp <;> with_reducible rfl
      try simp only [Act.put, List.setIfInBounds_toArray, List.set_cons_zero, List.set_cons_succ]
      refine rgs_t (v := ?_) (some 47) 2 (by kernel_rfl) rfl rfl (by assumption) (.inl ⟨by rfl, fun w' hw => ?_⟩) ?_
      rotate_left
      · obtain ⟨q1, q2, q3⟩ := hw; go_simp <;> with_reducible rfl
      try simp only [Act.put, List.setIfInBounds_toArray, List.set_cons_zero, List.set_cons_succ]
      refine rgs_t (v := ?_) (some 48) 3 (by kernel_rfl) rfl rfl (by assumption) (.inl ⟨by rfl, fun w' hw => ?_⟩) ?_
      rotate_left
      · obtain ⟨q1, q2, q3⟩ := hw; go_simp <;> with_reducible rfl
      try simp only [Act.put, List.setIfInBounds_toArray, List.set_cons_zero, List.set_cons_succ]
      refine rgs_t (v := ?_) (some 49) 4 (by kernel_rfl) rfl rfl (by assumption) (.inl ⟨by rfl, fun w' hw => ?_⟩) ?_
      rotate_left
      · obtain ⟨q1, q2, q3⟩ := hw; go_simp <;> with_reducible rfl
      try simp only [Act.put, List.setIfInBounds_toArray, List.set_cons_zero, List.set_cons_succ]
      refine rgs_t (v := ?_) (some 50) 5 (by kernel_rfl) rfl rfl (by assumption) (.inl ⟨by rfl, fun w' hw => ?_⟩) ?_
      rotate_left
      · obtain ⟨q1, q2, q3⟩ := hw; go_simp <;> with_reducible rfl
      try simp only [Act.put, List.setIfInBounds_toArray, List.set_cons_zero, List.set_cons_succ]
      refine rgs_t (v := ?_) (some 51) 6 (by kernel_rfl) rfl rfl (by assumption) (.inl ⟨by rfl, fun w' hw => ?_⟩) ?_
      rotate_left
      · obtain ⟨q1, q2, q3⟩ := hw; go_simp <;> with_reducible rfl
      try simp only [Act.put, List.setIfInBounds_toArray, List.set_cons_zero, List.set_cons_succ]
      refine rgs_t (v := ?_) (some 52) 7 (by kernel_rfl) rfl rfl (by assumption) (.inl ⟨by rfl, fun w' hw => ?_⟩) ?_
      rotate_left
      · obtain ⟨q1, q2, q3⟩ := hw; go_simp <;> with_reducible rfl
      try simp only [Act.put, List.setIfInBounds_toArray, List.set_cons_zero, List.set_cons_succ]
      refine rgs_t (v := ?_) (some 53) 8 (by kernel_rfl) rfl rfl (by assumption) (.inl ⟨by rfl, fun w' hw => ?_⟩) ?_
      rotate_left
      · obtain ⟨q1, q2, q3⟩ := hw; go_simp <;> with_reducible rfl
      try simp only [Act.put, List.setIfInBounds_toArray, List.set_cons_zero, List.set_cons_succ]
      refine rgs_t (v := ?_) (some 55) 10 (by kernel_rfl) rfl rfl (by assumption) (.inl ⟨by rfl, fun w' hw => ?_⟩) ?_
      rotate_left
      · obtain ⟨q1, q2, q3⟩ := hw; go_simp <;> with_reducible rfl
      try simp only [Act.put, List.setIfInBounds_toArray, List.set_cons_zero, List.set_cons_succ]
      refine rgs_c 9 (by kernel_rfl) rfl (by rfl) (fun K hK => ?_)
      go_simp
      refine (HC.out _).mono ?_
      rintro e y5 ⟨rfl, hb5⟩
      have hbc5 := ext_trans hbc4 hb5
      have hS5 : (∀ i, y5.cell? ⟨g5, i, none⟩ = (#[.int .i64 b, .int .i64 p] : Array Value)[i]?) ∧ (∀ i, y5.cell? ⟨g6, i, none⟩ = (#[.int .i64 b2, .int .i64 p2] : Array Value)[i]?) ∧ True := ⟨(HB5.out.below hbc5).1, (HB6.out.below hbc5).1, trivial⟩
      refine hK _ _ hS5 ?_
      clear hK K
      try simp only [Act.put, List.setIfInBounds_toArray, List.set_cons_zero, List.set_cons_succ]
      refine rgs_c 11 (by kernel_rfl) rfl (by rfl) (fun K hK => ?_)
      go_simp
      refine (HC2.out _).mono ?_
      rintro e y6 ⟨rfl, hb6⟩
      have hbc6 := ext_trans hbc5 hb6
      have hS6 : (∀ i, y6.cell? ⟨g5, i, none⟩ = (#[.int .i64 b, .int .i64 p] : Array Value)[i]?) ∧ (∀ i, y6.cell? ⟨g6, i, none⟩ = (#[.int .i64 b2, .int .i64 p2] : Array Value)[i]?) ∧ True := ⟨(HB5.out.below hbc6).1, (HB6.out.below hbc6).1, trivial⟩
      refine hK _ _ hS6 ?_
      clear hK K
      try simp only [Act.put, List.setIfInBounds_toArray, List.set_cons_zero, List.set_cons_succ]
      refine rgs_t (v := ?_) (some 57) 12 (by kernel_rfl) rfl rfl (by assumption) (.inl ⟨by rfl, fun w' hw => ?_⟩) ?_
      rotate_left
      · obtain ⟨q1, q2, q3⟩ := hw; go_simp <;> with_reducible rfl
      try simp only [Act.put, List.setIfInBounds_toArray, List.set_cons_zero, List.set_cons_succ]
      refine rgs_t (v := ?_) (some 58) 13 (by kernel_rfl) rfl rfl (by assumption) (.inl ⟨by rfl, fun w' hw => ?_⟩) ?_
      rotate_left
      · obtain ⟨q1, q2, q3⟩ := hw; go_simp <;> with_reducible rfl
      try simp only [Act.put, List.setIfInBounds_toArray, List.set_cons_zero, List.set_cons_succ]
      refine rgs_t (v := ?_) (some 59) 14 (by kernel_rfl) rfl rfl (by assumption) (.inl ⟨by rfl, fun w' hw => ?_⟩) ?_
      rotate_left
      · obtain ⟨q1, q2, q3⟩ := hw; go_simp <;> with_reducible rfl
      try simp only [Act.put, List.setIfInBounds_toArray, List.set_cons_zero, List.set_cons_succ]
      refine rgs_t (v := ?_) (some 61) 16 (by kernel_rfl) rfl rfl (by assumption) (.inl ⟨by rfl, fun w' hw => ?_⟩) ?_
      rotate_left
      · obtain ⟨q1, q2, q3⟩ := hw; go_simp <;> with_reducible rfl
      try simp only [Act.put, List.setIfInBounds_toArray, List.set_cons_zero, List.set_cons_succ]
      refine rgs_c 15 (by kernel_rfl) rfl (by rfl) (fun K hK => ?_)
      go_simp
      refine (HU.out _).mono ?_
      rintro e y7 ⟨rfl, hb7⟩
      have hbc7 := ext_trans hbc6 hb7
      have hS7 : (∀ i, y7.cell? ⟨g5, i, none⟩ = (#[.int .i64 b, .int .i64 p] : Array Value)[i]?) ∧ (∀ i, y7.cell? ⟨g6, i, none⟩ = (#[.int .i64 b2, .int .i64 p2] : Array Value)[i]?) ∧ True := ⟨(HB5.out.below hbc7).1, (HB6.out.below hbc7).1, trivial⟩
      refine hK _ _ hS7 ?_
      clear hK K
      try simp only [Act.put, List.setIfInBounds_toArray, List.set_cons_zero, List.set_cons_succ]
      refine rgs_c 17 (by kernel_rfl) rfl (by rfl) (fun K hK => ?_)
      go_simp
      refine (HU2.out _).mono ?_
      rintro e y8 ⟨rfl, hb8⟩
      have hbc8 := ext_trans hbc7 hb8
      have hS8 : (∀ i, y8.cell? ⟨g5, i, none⟩ = (#[.int .i64 b, .int .i64 p] : Array Value)[i]?) ∧ (∀ i, y8.cell? ⟨g6, i, none⟩ = (#[.int .i64 b2, .int .i64 p2] : Array Value)[i]?) ∧ True := ⟨(HB5.out.below hbc8).1, (HB6.out.below hbc8).1, trivial⟩
      refine hK _ _ hS8 ?_
      clear hK K
      try simp only [Act.put, List.setIfInBounds_toArray, List.set_cons_zero, List.set_cons_succ]
      refine rgs_t (v := ?_) (some 63) 18 (by kernel_rfl) rfl rfl (by assumption) (.inl ⟨by rfl, fun w' hw => ?_⟩) ?_
      rotate_left
      · obtain ⟨q1, q2, q3⟩ := hw; go_simp <;> with_reducible rfl
      try simp only [Act.put, List.setIfInBounds_toArray, List.set_cons_zero, List.set_cons_succ]
      refine rgs_t (v := ?_) (some 64) 19 (by kernel_rfl) rfl rfl (by assumption) (.inl ⟨by rfl, fun w' hw => ?_⟩) ?_
      rotate_left
      · obtain ⟨q1, q2, q3⟩ := hw; go_simp <;> with_reducible rfl
      try simp only [Act.put, List.setIfInBounds_toArray, List.set_cons_zero, List.set_cons_succ]
      refine rgs_t (v := ?_) (some 65) 20 (by kernel_rfl) rfl rfl (by assumption) (.inl ⟨by rfl, fun w' hw => ?_⟩) ?_
      rotate_left
      · obtain ⟨q1, q2, q3⟩ := hw; go_simp <;> with_reducible rfl
      try simp only [Act.put, List.setIfInBounds_toArray, List.set_cons_zero, List.set_cons_succ]
      refine rgs_t (v := ?_) (some 66) 21 (by kernel_rfl) rfl rfl (by assumption) (.inl ⟨by rfl, fun w' hw => ?_⟩) ?_
      rotate_left
      · obtain ⟨q1, q2, q3⟩ := hw; go_simp <;> with_reducible rfl
      try simp only [Act.put, List.setIfInBounds_toArray, List.set_cons_zero, List.set_cons_succ]
      refine rgs_t (v := ?_) (some 68) 23 (by kernel_rfl) rfl rfl (by assumption) (.inl ⟨by rfl, fun w' hw => ?_⟩) ?_
      rotate_left
      · obtain ⟨q1, q2, q3⟩ := hw; go_simp <;> with_reducible rfl
      try simp only [Act.put, List.setIfInBounds_toArray, List.set_cons_zero, List.set_cons_succ]
      refine rgs_c 22 (by kernel_rfl) rfl (by rfl) (fun K hK => ?_)
      go_simp
      refine (HT.out _).mono ?_
      rintro e y9 ⟨rfl, hb9⟩
      have hbc9 := ext_trans hbc8 hb9
      have hS9 : (∀ i, y9.cell? ⟨g5, i, none⟩ = (#[.int .i64 b, .int .i64 p] : Array Value)[i]?) ∧ (∀ i, y9.cell? ⟨g6, i, none⟩ = (#[.int .i64 b2, .int .i64 p2] : Array Value)[i]?) ∧ True := ⟨(HB5.out.below hbc9).1, (HB6.out.below hbc9).1, trivial⟩
      refine hK _ _ hS9 ?_
      clear hK K
      try simp only [Act.put, List.setIfInBounds_toArray, List.set_cons_zero, List.set_cons_succ]
      refine rgs_c 24 (by kernel_rfl) rfl (by rfl) (fun K hK => ?_)
      go_simp
      refine (HT2.out _).mono ?_
      rintro e y10 ⟨rfl, hb10⟩
      have hbc10 := ext_trans hbc9 hb10
      have hS10 : (∀ i, y10.cell? ⟨g5, i, none⟩ = (#[.int .i64 b, .int .i64 p] : Array Value)[i]?) ∧ (∀ i, y10.cell? ⟨g6, i, none⟩ = (#[.int .i64 b2, .int .i64 p2] : Array Value)[i]?) ∧ True := ⟨(HB5.out.below hbc10).1, (HB6.out.below hbc10).1, trivial⟩
      refine hK _ _ hS10 ?_
      clear hK K
      try simp only [Act.put, List.setIfInBounds_toArray, List.set_cons_zero, List.set_cons_succ]
      refine rgs_t (v := ?_) (some 70) 25 (by kernel_rfl) rfl rfl (by assumption) (.inl ⟨by rfl, fun w' hw => ?_⟩) ?_
      rotate_left
      · obtain ⟨q1, q2, q3⟩ := hw; go_simp <;> with_reducible rfl
      try simp only [Act.put, List.setIfInBounds_toArray, List.set_cons_zero, List.set_cons_succ]
      refine rgs_t (v := ?_) (some 71) 26 (by kernel_rfl) rfl rfl (by assumption) (.inl ⟨by rfl, fun w' hw => ?_⟩) ?_
      rotate_left
      · obtain ⟨q1, q2, q3⟩ := hw; go_simp <;> with_reducible rfl
      try simp only [Act.put, List.setIfInBounds_toArray, List.set_cons_zero, List.set_cons_succ]
      refine rgs_t (v := ?_) (some 72) 27 (by kernel_rfl) rfl rfl (by assumption) (.inl ⟨by rfl, fun w' hw => ?_⟩) ?_
      rotate_left
      · obtain ⟨q1, q2, q3⟩ := hw; go_simp <;> with_reducible rfl
      try simp only [Act.put, List.setIfInBounds_toArray, List.set_cons_zero, List.set_cons_succ]
      refine rgs_t (v := ?_) (some 73) 28 (by kernel_rfl) rfl rfl (by assumption) (.inl ⟨by rfl, fun w' hw => ?_⟩) ?_
      rotate_left
      · obtain ⟨q1, q2, q3⟩ := hw; go_simp <;> with_reducible rfl
      try simp only [Act.put, List.setIfInBounds_toArray, List.set_cons_zero, List.set_cons_succ]
      refine rgs_t (v := ?_) (some 4) 29 (by kernel_rfl) rfl rfl (by assumption) (.inl ⟨by rfl, fun w' hw => ?_⟩) ?_
      rotate_left
      · obtain ⟨q1, q2, q3⟩ := hw; go_simp <;> with_reducible rfl
      try simp only [Act.put, List.setIfInBounds_toArray, List.set_cons_zero, List.set_cons_succ]
      refine rgs_d (by kernel_rfl) ?_
      go_wp2
      go_ret
      exact ⟨rfl, ext_trans hbw hbc10⟩
end Go.Proofs.Ytikhlmliefnccaa

/- The law ReceiverErrors in plain words (printed by errp.py). -/
import Derived.Test.YthgapllfjllnfaaRcvW
import Derived.Test.YthgapllfjllnfaaMake
set_option linter.unusedVariables false
set_option linter.unusedSimpArgs false
namespace Go.Proofs.Ythgapllfjllnfaa
open Go.RowKit

theorem mod_eq (x n r : Int) (hn : 1 ≤ n) (hn2 : n ≤ 1000000000) (h : x % n = r) (w : World) : Calls Try.prog 9 #[.int .i64 x, .int .i64 n] w fun e w' => e = .returned (.int .i64 r) ∧ w = w' := by
  subst h; exact mod_any x n hn hn2 w
theorem t35_bd (b p : Int) : 0 ≤ t35Z b p ∧ t35Z b p ≤ 32084 := by
  unfold t35Z
  split
  · rename_i h
    simp only [validB, Bool.and_eq_true, decide_eq_true_eq] at h
    have := h.1
    simp only [bauds, List.mem_cons, List.not_mem_nil, or_false] at this
    rcases this with rfl | rfl | rfl | rfl | rfl | rfl | rfl | rfl <;> decide
  · omega
theorem t35_lo (b p : Int) (h : validB b p = true) : 1750 ≤ t35Z b p := by
  unfold t35Z
  rw [if_pos h]
  simp only [validB, Bool.and_eq_true, decide_eq_true_eq] at h
  have := h.1
  simp only [bauds, List.mem_cons, List.not_mem_nil, or_false] at this
  rcases this with rfl | rfl | rfl | rfl | rfl | rfl | rfl | rfl <;> decide
theorem validAll (j : Nat) (h : j < allL.length) : validB (allL[j]).1 (allL[j]).2 = true := by
  have : ∀ s ∈ allL, validB s.1 s.2 = true := by decide
  exact this _ (List.getElem_mem h)
theorem rt35_eq (b p u : Int) (h : t35Z b p = u) (w : World) : Calls Try.prog 22 #[.agg #[.int .i64 b, .int .i64 p]] w fun e w' => e = .returned (.int .i64 u) ∧ Below w.heap.size w w' := by
  subst h; exact rt35_any b p w
theorem rchar_eq (b p u : Int) (h : charZ b p = u) (w : World) : Calls Try.prog 17 #[.agg #[.int .i64 b, .int .i64 p]] w fun e w' => e = .returned (.int .i64 u) ∧ Below w.heap.size w w' := by
  subst h; exact rchar_any b p w
set_option maxRecDepth 100000 in
set_option maxHeartbeats 16000000 in
theorem errors_any (k0 first idle next : Int) (w : World) :
    Calls Try.prog 7 #[.int .i64 k0, .int .i64 first, .int .i64 idle, .int .i64 next] w fun e w' => e = .returned (.bool true) ∧ Below w.heap.size w w' := by
  obtain ⟨j, hj, hm⟩ : ∃ j : Nat, j < 24 ∧ k0 % 24 = (j : Int) := ⟨(k0 % 24).toNat, by omega, by omega⟩
  have HM := Lib.hid (fun w => mod_eq k0 24 j (by omega) (by omega) hm w)
  have hlj : j < allL.length := by rw [all_length]; exact hj
  have hval := validAll j hlj
  obtain ⟨e0, e1⟩ := st_get0 allL j hlj
  obtain ⟨b, hb⟩ : ∃ b, (allL[j]).1 = b := ⟨_, rfl⟩
  obtain ⟨p, hp⟩ : ∃ p, (allL[j]).2 = p := ⟨_, rfl⟩
  rw [hb] at e0 hval
  rw [hp] at e1 hval
  have E0 := Lib.hid e0; have E1 := Lib.hid e1
  obtain ⟨f, hf⟩ : ∃ t, first % 1000000 = t := ⟨_, rfl⟩
  obtain ⟨d, hd⟩ : ∃ t, idle % 1000 = t := ⟨_, rfl⟩
  have HMf := Lib.hid (fun w => mod_eq first 1000000 f (by omega) (by omega) hf w)
  have HMd := Lib.hid (fun w => mod_eq idle 1000 d (by omega) (by omega) hd w)
  have hf1 : 0 ≤ f := by omega
  have hf2 : f ≤ 1000000 := by omega
  have hd1 : 0 ≤ d := by omega
  have hd2 : d ≤ 1000 := by omega
  obtain ⟨ch, hc⟩ : ∃ z, charZ b p = z := ⟨_, rfl⟩
  obtain ⟨t15, h15⟩ : ∃ z, t15Z b p = z := ⟨_, rfl⟩
  obtain ⟨t35, hu⟩ : ∃ z, t35Z b p = z := ⟨_, rfl⟩
  have HC := Lib.hid (fun w => rchar_eq b p ch hc w)
  have HU := Lib.hid (fun w => rt35_eq b p t35 hu w)
  have HNEW := Lib.hid (fun W => new_ok b p ch t15 t35 hval hc h15 hu W)
  obtain ⟨hch1, hch2⟩ := char_bd b p
  obtain ⟨hu1, hu2⟩ := t35_bd b p
  have hlo := t35_lo b p hval
  rw [hc] at hch1 hch2
  rw [hu] at hu1 hu2 hlo
  have hch2 : ch ≤ 100000 := by omega
  have hu2 : t35 ≤ 100000 := by omega
  have k1 : IntKind.i64.wrap (f + d) = f + d := IntWalk.i64_in _ ⟨by omega, by omega⟩
  have k2 : IntKind.i64.wrap (f + t35) = f + t35 := IntWalk.i64_in _ ⟨by omega, by omega⟩
  have k3 : IntKind.i64.wrap (f + t35 + ch) = f + t35 + ch := IntWalk.i64_in _ ⟨by omega, by omega⟩
  have HBAD := Lib.hid (fun W => new_bad 5 0 (by decide) W)
  have HCN := Lib.hid (fun W => char_nil 0 0 0 W)
  have HIN := Lib.hid (fun W => idle_nil 100 W)
  have HDN := Lib.hid (fun W => deadline_nil W)
  clear hm hb hp e0 e1 hf hd hc h15 hu hval
  go_enter Try.func7, Try.ntmps7
  go_wp2_with fail
  refine (all_any _).mono ?_
  rintro e w1 ⟨A1, c0, rfl, hown, hb1⟩
  obtain ⟨g1, off, rfl, _, hcc⟩ := (Rd.of_own hown).2 (by omega)
  have c1 := hcc _ _ E0.out
  have c2 := hcc _ _ E1.out
  rw [← Nat.add_assoc] at c2
  clear hown hcc
  go_wp2_with fail
  refine (HM.out _).mono ?_
  rintro e w' ⟨rfl, rfl⟩
  go_upto_region 3 with fail
  obtain ⟨g0, hg⟩ : ∃ g, w1.heap.size = g := ⟨_, rfl⟩
  obtain ⟨W1, hW1⟩ : ∃ W1, w1.alloc (.cells #[.int .i64 b, .int .i64 p] 23) = W1 := ⟨_, rfl⟩
  have HSB := Lib.hid (show Box W1 g0 #[.int .i64 b, .int .i64 p] from hW1 ▸ hg ▸ Box.alloc_)
  have HBW := Lib.hid (show Below w.heap.size w W1 from hW1 ▸ ext_alloc hb1 _)
  try rw [hg]
  try rw [hW1]
  clear hW1 hg hb1 c1 c2
  go_wp2_with fail
  refine (HBAD.out _).mono ?_
  rintro e w2 ⟨rfl, hb2⟩
  have HSB := Lib.hid (HSB.out.below hb2)
  have HBW := Lib.hid (ext_trans HBW.out hb2)
  clear hb2
  go_wp2_with fail
  refine (HCN.out _).mono ?_
  rintro e w3 ⟨rfl, hb3⟩
  unfold noFrame
  have hb3 := ext_alloc hb3 (.cells #[.slice none 0 0, .int .i64 0, .int .i64 0, .int .i64 0] 44)
  have HSB := Lib.hid (HSB.out.below hb3)
  have HBW := Lib.hid (ext_trans HBW.out hb3)
  clear hb3
  go_wp2_with fail
  refine (HIN.out _).mono ?_
  rintro e w4 ⟨rfl, hb4⟩
  unfold noFrame
  have hb4 := ext_alloc hb4 (.cells #[.slice none 0 0, .int .i64 0, .int .i64 0, .int .i64 0] 44)
  have HSB := Lib.hid (HSB.out.below hb4)
  have HBW := Lib.hid (ext_trans HBW.out hb4)
  clear hb4
  go_wp2_with fail
  refine (HDN.out _).mono ?_
  rintro e w5 ⟨rfl, hb5⟩
  have HSB := Lib.hid (HSB.out.below hb5)
  have HBW := Lib.hid (ext_trans HBW.out hb5)
  clear hb5
  obtain ⟨qs, zs, ls⟩ := HSB.out
  go_wp2_with fail
  refine (HNEW.out _).mono ?_
  rintro e w6 ⟨g, rfl, hBg, hwg, hb6⟩
  have HG0 := Lib.hid (show g0 < g by omega)
  have HGW := Lib.hid (show w.heap.size ≤ g from Nat.le_trans HBW.out.size hwg)
  have HRA := Lib.hid (show RB w6 g (.slice none 0 0) ch t15 t35 [] 0 0 0 false 0 0 from ⟨hBg, rfl, .inl ⟨rfl, rfl⟩⟩)
  have HSB := Lib.hid (HSB.out.below hb6)
  have HBW := Lib.hid (ext_trans HBW.out hb6)
  clear hb6 hBg hwg qs zs ls
  go_wp2_with fail
  refine (HMf.out _).mono ?_
  rintro e w' ⟨rfl, rfl⟩
  go_wp2_with fail
  refine (HMd.out _).mono ?_
  rintro e w' ⟨rfl, rfl⟩
  go_wp2_with fail
  obtain ⟨fX, hfX⟩ : ∃ fX, addFl false (max 0 (f - ch - 0)) t15 ([] : List Int).length 0 0 = fX := ⟨_, rfl⟩
  refine (char_keep ch t15 t35 [] [0] f fX (.slice none 0 0) 0 0 0 false 0 0 f 0 0 (max 0 (f - ch - 0)) g _ HRA.out (by simp) rfl rfl hfX hch1 hch2 (Int.le_refl _) hf1 (by omega) hf1 hf1 rfl (.inl rfl)).mono ?_
  rintro e w7 ⟨rfl, v, hR7, hv7, hc7⟩
  unfold noFrame
  have HR7 := Lib.hid (hR7.below ((Below.refl _ _).alloc (Nat.le_refl _) (.cells #[.slice none 0 0, .int .i64 0, .int .i64 0, .int .i64 0] 44)))
  have HS7 := Lib.hid ((HSB.out.chg hc7 (by have := HG0.out; omega) (by intro e; cases e)).alloc' (.cells #[.slice none 0 0, .int .i64 0, .int .i64 0, .int .i64 0] 44))
  have HB7 := Lib.hid ((below_chg HBW.out hc7 HBW.out.size HGW.out (fun q hq => by cases hq)).alloc (Nat.le_trans HBW.out.size hc7.2.2.2.1) (.cells #[.slice none 0 0, .int .i64 0, .int .i64 0, .int .i64 0] 44))
  clear hR7 hv7 hc7 hfX HSB HBW
  have HIE := Lib.hid (fun (W : World) (h : RB W g v ch t15 t35 [0] f f fX true f 0) => idle_early ch t15 t35 v f f fX f 0 (f + d) g W h.1 hch1 hch2 hu1 hu2 hf1 (by omega) (by omega) (by omega) (by omega))
  go_wp2_with fail
  refine (HIE.out _ HR7.out).mono ?_
  rintro e w8 ⟨rfl, hB8, hg8⟩
  have HR4 := Lib.hid (show RB w8 g v ch t15 t35 [0] f f fX true f (f + d) from ⟨hB8, own_off HR7.out.2 hg8 (fun q hq e => by injection e with e; have := (HR7.out.2.lt q hq).1; omega)⟩)
  have HS4 := Lib.hid (HS7.out.grown hg8 (by have := HG0.out; omega))
  have HB4 := Lib.hid (HB7.out.grown hg8 HB7.out.size (fun q hq => by injection hq with hq; have := HGW.out; omega))
  clear hB8 hg8 HR7 HS7 HB7
  by_cases a1 : next < 0
  · have d1 : decide (next < 0) = true := by simpa using a1
    have HCH := Lib.hid (fun (W : World) (cs : Value) (h : Box W g (rcvCells ch t15 t35 cs f f fX true f (f + d))) => char_bad cs ch t15 t35 f f fX true f (f + d) next 0 0 3 g W h (.inl ⟨.inl a1, rfl⟩))
    have HDL := Lib.hid (fun (W : World) (cs : Value) (h : Box W g (rcvCells ch t15 t35 cs f f fX true f (f + d))) => show Calls Try.prog 21 #[.pointer (some ⟨g, 0, none⟩)] W (fun e w' => e = .returned (.tuple #[.int .i64 (f + t35 + ch), .bool true]) ∧ Below W.heap.size W w') from deadline_any ch t15 t35 cs f f fX true f (f + d) g W h hch1 hch2 hu1 hu2 hf1 (by omega))
    clear a1
    go_wp2_with fail
    refine (HCH.out _ _ HR4.out.1).mono ?_
    rintro e x ⟨rfl, hbx⟩
    unfold noFrame
    have hbx2 := ext_alloc hbx (.cells #[.slice none 0 0, .int .i64 0, .int .i64 0, .int .i64 0] 44)
    have HGX := Lib.hid (HR4.out.1.below hbx2)
    have HSB := Lib.hid (HS4.out.below hbx2)
    have HBW := Lib.hid (ext_trans HB4.out hbx2)
    clear hbx hbx2
    go_wp2_with fail
    refine (HDL.out _ _ HGX.out).mono ?_
    rintro e y ⟨rfl, hby⟩
    have HSY := Lib.hid (HSB.out.below hby)
    have hbW := ext_trans HBW.out hby
    have HBV := Lib.hid hbW
    clear hby hbW
    go_upto_region 22 with fail
    have hbc0 : Below y.heap.size y y.drew := below_drew (Below.refl _ _)
    have hS : (∀ i, y.drew.cell? ⟨g0, i, none⟩ = (#[.int .i64 b, .int .i64 p] : Array Value)[i]?) ∧ True ∧ True := ⟨HSY.out.1, trivial, trivial⟩
    refine rgs_start (fun w' => (∀ i, w'.cell? ⟨g0, i, none⟩ = (#[.int .i64 b, .int .i64 p] : Array Value)[i]?) ∧ True ∧ True) (by kernel_rfl) ?_
    refine rgs_c 0 (by kernel_rfl) rfl (by rfl) (fun K hK => ?_)
    go_simp
    refine (awake_any _).mono ?_
    rintro e x5 ⟨rfl, hb5⟩
    have hbc5 := ext_trans hbc0 hb5
    have hS5 : (∀ i, x5.cell? ⟨g0, i, none⟩ = (#[.int .i64 b, .int .i64 p] : Array Value)[i]?) ∧ True ∧ True := ⟨(HSY.out.below hbc5).1, trivial, trivial⟩
    refine hK _ _ hS5 ?_
    clear hK K
    try simp only [Act.put, List.setIfInBounds_toArray, List.set_cons_zero, List.set_cons_succ]
    refine rgs_t (v := ?_) (some 129) 1 (by kernel_rfl) rfl rfl (by assumption) (.inl ⟨by rfl, fun w' hw => ?_⟩) ?_
    rotate_left
    · obtain ⟨q1, q2, q3⟩ := hw; go_simp <;> with_reducible rfl
    try simp only [Act.put, List.setIfInBounds_toArray, List.set_cons_zero, List.set_cons_succ]
    refine rgs_t (v := ?_) (some 130) 2 (by kernel_rfl) rfl rfl (by assumption) (.inl ⟨by rfl, fun w' hw => ?_⟩) ?_
    rotate_left
    · obtain ⟨q1, q2, q3⟩ := hw; go_simp <;> with_reducible rfl
    try simp only [Act.put, List.setIfInBounds_toArray, List.set_cons_zero, List.set_cons_succ]
    refine rgs_t (v := ?_) (some 131) 3 (by kernel_rfl) rfl rfl (by assumption) (.inl ⟨by rfl, fun w' hw => ?_⟩) ?_
    rotate_left
    · obtain ⟨q1, q2, q3⟩ := hw; go_simp <;> with_reducible rfl
    try simp only [Act.put, List.setIfInBounds_toArray, List.set_cons_zero, List.set_cons_succ]
    refine rgs_t (v := ?_) (some 132) 4 (by kernel_rfl) rfl rfl (by assumption) (.inl ⟨by rfl, fun w' hw => ?_⟩) ?_
    rotate_left
    · obtain ⟨q1, q2, q3⟩ := hw; go_simp <;> with_reducible rfl
    try simp only [Act.put, List.setIfInBounds_toArray, List.set_cons_zero, List.set_cons_succ]
    refine rgs_t (v := ?_) (some 133) 5 (by kernel_rfl) rfl rfl (by assumption) (.inl ⟨by rfl, fun w' hw => ?_⟩) ?_
    rotate_left
    · obtain ⟨q1, q2, q3⟩ := hw; go_simp <;> with_reducible rfl
    try simp only [Act.put, List.setIfInBounds_toArray, List.set_cons_zero, List.set_cons_succ]
    refine rgs_t (v := ?_) (some 134) 6 (by kernel_rfl) rfl rfl (by assumption) (.inl ⟨by rfl, fun w' hw => ?_⟩) ?_
    rotate_left
    · obtain ⟨q1, q2, q3⟩ := hw; go_simp <;> with_reducible rfl
    try simp only [Act.put, List.setIfInBounds_toArray, List.set_cons_zero, List.set_cons_succ]
    refine rgs_t (v := ?_) (some 135) 7 (by kernel_rfl) rfl rfl (by assumption) (.inl ⟨by rfl, fun w' hw => ?_⟩) ?_
    rotate_left
    · obtain ⟨q1, q2, q3⟩ := hw; go_simp <;> with_reducible rfl
    try simp only [Act.put, List.setIfInBounds_toArray, List.set_cons_zero, List.set_cons_succ]
    refine rgs_t (v := ?_) (some 136) 8 (by kernel_rfl) rfl rfl (by assumption) (.inl ⟨by rfl, fun w' hw => ?_⟩) ?_
    rotate_left
    · obtain ⟨q1, q2, q3⟩ := hw; go_simp <;> with_reducible rfl
    try simp only [Act.put, List.setIfInBounds_toArray, List.set_cons_zero, List.set_cons_succ]
    refine rgs_t (v := ?_) (some 137) 9 (by kernel_rfl) rfl rfl (by assumption) (.inl ⟨by rfl, fun w' hw => ?_⟩) ?_
    rotate_left
    · obtain ⟨q1, q2, q3⟩ := hw; go_simp <;> with_reducible rfl
    try simp only [Act.put, List.setIfInBounds_toArray, List.set_cons_zero, List.set_cons_succ]
    refine rgs_t (v := ?_) (some 138) 10 (by kernel_rfl) rfl rfl (by assumption) (.inl ⟨by rfl, fun w' hw => ?_⟩) ?_
    rotate_left
    · obtain ⟨q1, q2, q3⟩ := hw; go_simp <;> with_reducible rfl
    try simp only [Act.put, List.setIfInBounds_toArray, List.set_cons_zero, List.set_cons_succ]
    refine rgs_t (v := ?_) (some 139) 11 (by kernel_rfl) rfl rfl (by assumption) (.inl ⟨by rfl, fun w' hw => ?_⟩) ?_
    rotate_left
    · obtain ⟨q1, q2, q3⟩ := hw; go_simp <;> with_reducible rfl
    try simp only [Act.put, List.setIfInBounds_toArray, List.set_cons_zero, List.set_cons_succ]
    refine rgs_t (v := ?_) (some 140) 12 (by kernel_rfl) rfl rfl (by assumption) (.inl ⟨by rfl, fun w' hw => ?_⟩) ?_
    rotate_left
    · obtain ⟨q1, q2, q3⟩ := hw; go_simp <;> with_reducible rfl
    try simp only [Act.put, List.setIfInBounds_toArray, List.set_cons_zero, List.set_cons_succ]
    refine rgs_t (v := ?_) (some 141) 13 (by kernel_rfl) rfl rfl (by assumption) (.inl ⟨by rfl, fun w' hw => ?_⟩) ?_
    rotate_left
    · obtain ⟨q1, q2, q3⟩ := hw; go_simp <;> with_reducible rfl
    try simp only [Act.put, List.setIfInBounds_toArray, List.set_cons_zero, List.set_cons_succ]
    refine rgs_t (v := ?_) (some 142) 14 (by kernel_rfl) rfl rfl (by assumption) (.inl ⟨by rfl, fun w' hw => ?_⟩) ?_
    rotate_left
    · obtain ⟨q1, q2, q3⟩ := hw; go_simp <;> with_reducible rfl
    try simp only [Act.put, List.setIfInBounds_toArray, List.set_cons_zero, List.set_cons_succ]
    refine rgs_t (v := ?_) (some 143) 15 (by kernel_rfl) rfl rfl (by assumption) (.inl ⟨by rfl, fun w' hw => ?_⟩) ?_
    rotate_left
    · obtain ⟨q1, q2, q3⟩ := hw; go_simp <;> with_reducible rfl
    try simp only [Act.put, List.setIfInBounds_toArray, List.set_cons_zero, List.set_cons_succ]
    refine rgs_t (v := ?_) (some 146) 18 (by kernel_rfl) rfl rfl (by assumption) (.inl ⟨by rfl, fun w' hw => ?_⟩) ?_
    rotate_left
    · obtain ⟨q1, q2, q3⟩ := hw; go_simp <;> with_reducible rfl
    try simp only [Act.put, List.setIfInBounds_toArray, List.set_cons_zero, List.set_cons_succ]
    refine rgs_c 16 (by kernel_rfl) rfl (by rfl) (fun K hK => ?_)
    go_simp
    refine (HU.out _).mono ?_
    rintro e x6 ⟨rfl, hb6⟩
    have hbc6 := ext_trans hbc5 hb6
    have hS6 : (∀ i, x6.cell? ⟨g0, i, none⟩ = (#[.int .i64 b, .int .i64 p] : Array Value)[i]?) ∧ True ∧ True := ⟨(HSY.out.below hbc6).1, trivial, trivial⟩
    refine hK _ _ hS6 ?_
    clear hK K
    try simp only [Act.put, List.setIfInBounds_toArray, List.set_cons_zero, List.set_cons_succ]
    refine rgs_t (v := ?_) (some 145) 17 (by kernel_rfl) rfl rfl (by assumption) (.inl ⟨by rfl, fun w' hw => ?_⟩) ?_
    rotate_left
    · obtain ⟨q1, q2, q3⟩ := hw; go_simp <;> with_reducible rfl
    try simp only [Act.put, List.setIfInBounds_toArray, List.set_cons_zero, List.set_cons_succ]
    refine rgs_c 19 (by kernel_rfl) rfl (by rfl) (fun K hK => ?_)
    go_simp
    refine (HC.out _).mono ?_
    rintro e x7 ⟨rfl, hb7⟩
    have hbc7 := ext_trans hbc6 hb7
    have hS7 : (∀ i, x7.cell? ⟨g0, i, none⟩ = (#[.int .i64 b, .int .i64 p] : Array Value)[i]?) ∧ True ∧ True := ⟨(HSY.out.below hbc7).1, trivial, trivial⟩
    refine hK _ _ hS7 ?_
    clear hK K
    try simp only [Act.put, List.setIfInBounds_toArray, List.set_cons_zero, List.set_cons_succ]
    refine rgs_t (v := ?_) (some 148) 20 (by kernel_rfl) rfl rfl (by assumption) (.inl ⟨by rfl, fun w' hw => ?_⟩) ?_
    rotate_left
    · obtain ⟨q1, q2, q3⟩ := hw; go_simp <;> with_reducible rfl
    try simp only [Act.put, List.setIfInBounds_toArray, List.set_cons_zero, List.set_cons_succ]
    refine rgs_t (v := ?_) (some 149) 21 (by kernel_rfl) rfl rfl (by assumption) (.inl ⟨by rfl, fun w' hw => ?_⟩) ?_
    rotate_left
    · obtain ⟨q1, q2, q3⟩ := hw; go_simp <;> with_reducible rfl
    try simp only [Act.put, List.setIfInBounds_toArray, List.set_cons_zero, List.set_cons_succ]
    refine rgs_t (v := ?_) (some 150) 22 (by kernel_rfl) rfl rfl (by assumption) (.inl ⟨by rfl, fun w' hw => ?_⟩) ?_
    rotate_left
    · obtain ⟨q1, q2, q3⟩ := hw; go_simp <;> with_reducible rfl
    try simp only [Act.put, List.setIfInBounds_toArray, List.set_cons_zero, List.set_cons_succ]
    refine rgs_t (v := ?_) (some 151) 23 (by kernel_rfl) rfl rfl (by assumption) (.inl ⟨by rfl, fun w' hw => ?_⟩) ?_
    rotate_left
    · obtain ⟨q1, q2, q3⟩ := hw; go_simp <;> with_reducible rfl
    try simp only [Act.put, List.setIfInBounds_toArray, List.set_cons_zero, List.set_cons_succ]
    refine rgs_t (v := ?_) (some 8) 24 (by kernel_rfl) rfl rfl (by assumption) (.inl ⟨by rfl, fun w' hw => ?_⟩) ?_
    rotate_left
    · obtain ⟨q1, q2, q3⟩ := hw; go_simp <;> with_reducible rfl
    try simp only [Act.put, List.setIfInBounds_toArray, List.set_cons_zero, List.set_cons_succ]
    refine rgs_d (by kernel_rfl) ?_
    go_wp2
    go_ret
    exact ⟨rfl, ext_trans HBV.out hbc7⟩
  · have d1 : decide (next < 0) = false := by simpa using a1
    have hn1 : 0 ≤ next := by omega
    clear a1
    by_cases a2 : 1152921504606846976 < next
    · have d2 : decide (1152921504606846976 < next) = true := by simpa using a2
      have HCH := Lib.hid (fun (W : World) (cs : Value) (h : Box W g (rcvCells ch t15 t35 cs f f fX true f (f + d))) => char_bad cs ch t15 t35 f f fX true f (f + d) next 0 0 3 g W h (.inl ⟨.inr a2, rfl⟩))
      have HDL := Lib.hid (fun (W : World) (cs : Value) (h : Box W g (rcvCells ch t15 t35 cs f f fX true f (f + d))) => show Calls Try.prog 21 #[.pointer (some ⟨g, 0, none⟩)] W (fun e w' => e = .returned (.tuple #[.int .i64 (f + t35 + ch), .bool true]) ∧ Below W.heap.size W w') from deadline_any ch t15 t35 cs f f fX true f (f + d) g W h hch1 hch2 hu1 hu2 hf1 (by omega))
      clear a2
      go_wp2_with fail
      refine (HCH.out _ _ HR4.out.1).mono ?_
      rintro e x ⟨rfl, hbx⟩
      unfold noFrame
      have hbx2 := ext_alloc hbx (.cells #[.slice none 0 0, .int .i64 0, .int .i64 0, .int .i64 0] 44)
      have HGX := Lib.hid (HR4.out.1.below hbx2)
      have HSB := Lib.hid (HS4.out.below hbx2)
      have HBW := Lib.hid (ext_trans HB4.out hbx2)
      clear hbx hbx2
      go_wp2_with fail
      refine (HDL.out _ _ HGX.out).mono ?_
      rintro e y ⟨rfl, hby⟩
      have HSY := Lib.hid (HSB.out.below hby)
      have hbW := ext_trans HBW.out hby
      have HBV := Lib.hid hbW
      clear hby hbW
      go_upto_region 22 with fail
      have hbc0 : Below y.heap.size y y.drew := below_drew (Below.refl _ _)
      have hS : (∀ i, y.drew.cell? ⟨g0, i, none⟩ = (#[.int .i64 b, .int .i64 p] : Array Value)[i]?) ∧ True ∧ True := ⟨HSY.out.1, trivial, trivial⟩
      refine rgs_start (fun w' => (∀ i, w'.cell? ⟨g0, i, none⟩ = (#[.int .i64 b, .int .i64 p] : Array Value)[i]?) ∧ True ∧ True) (by kernel_rfl) ?_
      refine rgs_c 0 (by kernel_rfl) rfl (by rfl) (fun K hK => ?_)
      go_simp
      refine (awake_any _).mono ?_
      rintro e x5 ⟨rfl, hb5⟩
      have hbc5 := ext_trans hbc0 hb5
      have hS5 : (∀ i, x5.cell? ⟨g0, i, none⟩ = (#[.int .i64 b, .int .i64 p] : Array Value)[i]?) ∧ True ∧ True := ⟨(HSY.out.below hbc5).1, trivial, trivial⟩
      refine hK _ _ hS5 ?_
      clear hK K
      try simp only [Act.put, List.setIfInBounds_toArray, List.set_cons_zero, List.set_cons_succ]
      refine rgs_t (v := ?_) (some 129) 1 (by kernel_rfl) rfl rfl (by assumption) (.inl ⟨by rfl, fun w' hw => ?_⟩) ?_
      rotate_left
      · obtain ⟨q1, q2, q3⟩ := hw; go_simp <;> with_reducible rfl
      try simp only [Act.put, List.setIfInBounds_toArray, List.set_cons_zero, List.set_cons_succ]
      refine rgs_t (v := ?_) (some 130) 2 (by kernel_rfl) rfl rfl (by assumption) (.inl ⟨by rfl, fun w' hw => ?_⟩) ?_
      rotate_left
      · obtain ⟨q1, q2, q3⟩ := hw; go_simp <;> with_reducible rfl
      try simp only [Act.put, List.setIfInBounds_toArray, List.set_cons_zero, List.set_cons_succ]
      refine rgs_t (v := ?_) (some 131) 3 (by kernel_rfl) rfl rfl (by assumption) (.inl ⟨by rfl, fun w' hw => ?_⟩) ?_
      rotate_left
      · obtain ⟨q1, q2, q3⟩ := hw; go_simp <;> with_reducible rfl
      try simp only [Act.put, List.setIfInBounds_toArray, List.set_cons_zero, List.set_cons_succ]
      refine rgs_t (v := ?_) (some 132) 4 (by kernel_rfl) rfl rfl (by assumption) (.inl ⟨by rfl, fun w' hw => ?_⟩) ?_
      rotate_left
      · obtain ⟨q1, q2, q3⟩ := hw; go_simp <;> with_reducible rfl
      try simp only [Act.put, List.setIfInBounds_toArray, List.set_cons_zero, List.set_cons_succ]
      refine rgs_t (v := ?_) (some 133) 5 (by kernel_rfl) rfl rfl (by assumption) (.inl ⟨by rfl, fun w' hw => ?_⟩) ?_
      rotate_left
      · obtain ⟨q1, q2, q3⟩ := hw; go_simp <;> with_reducible rfl
      try simp only [Act.put, List.setIfInBounds_toArray, List.set_cons_zero, List.set_cons_succ]
      refine rgs_t (v := ?_) (some 134) 6 (by kernel_rfl) rfl rfl (by assumption) (.inl ⟨by rfl, fun w' hw => ?_⟩) ?_
      rotate_left
      · obtain ⟨q1, q2, q3⟩ := hw; go_simp <;> with_reducible rfl
      try simp only [Act.put, List.setIfInBounds_toArray, List.set_cons_zero, List.set_cons_succ]
      refine rgs_t (v := ?_) (some 135) 7 (by kernel_rfl) rfl rfl (by assumption) (.inl ⟨by rfl, fun w' hw => ?_⟩) ?_
      rotate_left
      · obtain ⟨q1, q2, q3⟩ := hw; go_simp <;> with_reducible rfl
      try simp only [Act.put, List.setIfInBounds_toArray, List.set_cons_zero, List.set_cons_succ]
      refine rgs_t (v := ?_) (some 136) 8 (by kernel_rfl) rfl rfl (by assumption) (.inl ⟨by rfl, fun w' hw => ?_⟩) ?_
      rotate_left
      · obtain ⟨q1, q2, q3⟩ := hw; go_simp <;> with_reducible rfl
      try simp only [Act.put, List.setIfInBounds_toArray, List.set_cons_zero, List.set_cons_succ]
      refine rgs_t (v := ?_) (some 137) 9 (by kernel_rfl) rfl rfl (by assumption) (.inl ⟨by rfl, fun w' hw => ?_⟩) ?_
      rotate_left
      · obtain ⟨q1, q2, q3⟩ := hw; go_simp <;> with_reducible rfl
      try simp only [Act.put, List.setIfInBounds_toArray, List.set_cons_zero, List.set_cons_succ]
      refine rgs_t (v := ?_) (some 138) 10 (by kernel_rfl) rfl rfl (by assumption) (.inl ⟨by rfl, fun w' hw => ?_⟩) ?_
      rotate_left
      · obtain ⟨q1, q2, q3⟩ := hw; go_simp <;> with_reducible rfl
      try simp only [Act.put, List.setIfInBounds_toArray, List.set_cons_zero, List.set_cons_succ]
      refine rgs_t (v := ?_) (some 139) 11 (by kernel_rfl) rfl rfl (by assumption) (.inl ⟨by rfl, fun w' hw => ?_⟩) ?_
      rotate_left
      · obtain ⟨q1, q2, q3⟩ := hw; go_simp <;> with_reducible rfl
      try simp only [Act.put, List.setIfInBounds_toArray, List.set_cons_zero, List.set_cons_succ]
      refine rgs_t (v := ?_) (some 140) 12 (by kernel_rfl) rfl rfl (by assumption) (.inl ⟨by rfl, fun w' hw => ?_⟩) ?_
      rotate_left
      · obtain ⟨q1, q2, q3⟩ := hw; go_simp <;> with_reducible rfl
      try simp only [Act.put, List.setIfInBounds_toArray, List.set_cons_zero, List.set_cons_succ]
      refine rgs_t (v := ?_) (some 141) 13 (by kernel_rfl) rfl rfl (by assumption) (.inl ⟨by rfl, fun w' hw => ?_⟩) ?_
      rotate_left
      · obtain ⟨q1, q2, q3⟩ := hw; go_simp <;> with_reducible rfl
      try simp only [Act.put, List.setIfInBounds_toArray, List.set_cons_zero, List.set_cons_succ]
      refine rgs_t (v := ?_) (some 142) 14 (by kernel_rfl) rfl rfl (by assumption) (.inl ⟨by rfl, fun w' hw => ?_⟩) ?_
      rotate_left
      · obtain ⟨q1, q2, q3⟩ := hw; go_simp <;> with_reducible rfl
      try simp only [Act.put, List.setIfInBounds_toArray, List.set_cons_zero, List.set_cons_succ]
      refine rgs_t (v := ?_) (some 143) 15 (by kernel_rfl) rfl rfl (by assumption) (.inl ⟨by rfl, fun w' hw => ?_⟩) ?_
      rotate_left
      · obtain ⟨q1, q2, q3⟩ := hw; go_simp <;> with_reducible rfl
      try simp only [Act.put, List.setIfInBounds_toArray, List.set_cons_zero, List.set_cons_succ]
      refine rgs_t (v := ?_) (some 146) 18 (by kernel_rfl) rfl rfl (by assumption) (.inl ⟨by rfl, fun w' hw => ?_⟩) ?_
      rotate_left
      · obtain ⟨q1, q2, q3⟩ := hw; go_simp <;> with_reducible rfl
      try simp only [Act.put, List.setIfInBounds_toArray, List.set_cons_zero, List.set_cons_succ]
      refine rgs_c 16 (by kernel_rfl) rfl (by rfl) (fun K hK => ?_)
      go_simp
      refine (HU.out _).mono ?_
      rintro e x6 ⟨rfl, hb6⟩
      have hbc6 := ext_trans hbc5 hb6
      have hS6 : (∀ i, x6.cell? ⟨g0, i, none⟩ = (#[.int .i64 b, .int .i64 p] : Array Value)[i]?) ∧ True ∧ True := ⟨(HSY.out.below hbc6).1, trivial, trivial⟩
      refine hK _ _ hS6 ?_
      clear hK K
      try simp only [Act.put, List.setIfInBounds_toArray, List.set_cons_zero, List.set_cons_succ]
      refine rgs_t (v := ?_) (some 145) 17 (by kernel_rfl) rfl rfl (by assumption) (.inl ⟨by rfl, fun w' hw => ?_⟩) ?_
      rotate_left
      · obtain ⟨q1, q2, q3⟩ := hw; go_simp <;> with_reducible rfl
      try simp only [Act.put, List.setIfInBounds_toArray, List.set_cons_zero, List.set_cons_succ]
      refine rgs_c 19 (by kernel_rfl) rfl (by rfl) (fun K hK => ?_)
      go_simp
      refine (HC.out _).mono ?_
      rintro e x7 ⟨rfl, hb7⟩
      have hbc7 := ext_trans hbc6 hb7
      have hS7 : (∀ i, x7.cell? ⟨g0, i, none⟩ = (#[.int .i64 b, .int .i64 p] : Array Value)[i]?) ∧ True ∧ True := ⟨(HSY.out.below hbc7).1, trivial, trivial⟩
      refine hK _ _ hS7 ?_
      clear hK K
      try simp only [Act.put, List.setIfInBounds_toArray, List.set_cons_zero, List.set_cons_succ]
      refine rgs_t (v := ?_) (some 148) 20 (by kernel_rfl) rfl rfl (by assumption) (.inl ⟨by rfl, fun w' hw => ?_⟩) ?_
      rotate_left
      · obtain ⟨q1, q2, q3⟩ := hw; go_simp <;> with_reducible rfl
      try simp only [Act.put, List.setIfInBounds_toArray, List.set_cons_zero, List.set_cons_succ]
      refine rgs_t (v := ?_) (some 149) 21 (by kernel_rfl) rfl rfl (by assumption) (.inl ⟨by rfl, fun w' hw => ?_⟩) ?_
      rotate_left
      · obtain ⟨q1, q2, q3⟩ := hw; go_simp <;> with_reducible rfl
      try simp only [Act.put, List.setIfInBounds_toArray, List.set_cons_zero, List.set_cons_succ]
      refine rgs_t (v := ?_) (some 150) 22 (by kernel_rfl) rfl rfl (by assumption) (.inl ⟨by rfl, fun w' hw => ?_⟩) ?_
      rotate_left
      · obtain ⟨q1, q2, q3⟩ := hw; go_simp <;> with_reducible rfl
      try simp only [Act.put, List.setIfInBounds_toArray, List.set_cons_zero, List.set_cons_succ]
      refine rgs_t (v := ?_) (some 151) 23 (by kernel_rfl) rfl rfl (by assumption) (.inl ⟨by rfl, fun w' hw => ?_⟩) ?_
      rotate_left
      · obtain ⟨q1, q2, q3⟩ := hw; go_simp <;> with_reducible rfl
      try simp only [Act.put, List.setIfInBounds_toArray, List.set_cons_zero, List.set_cons_succ]
      refine rgs_t (v := ?_) (some 8) 24 (by kernel_rfl) rfl rfl (by assumption) (.inl ⟨by rfl, fun w' hw => ?_⟩) ?_
      rotate_left
      · obtain ⟨q1, q2, q3⟩ := hw; go_simp <;> with_reducible rfl
      try simp only [Act.put, List.setIfInBounds_toArray, List.set_cons_zero, List.set_cons_succ]
      refine rgs_d (by kernel_rfl) ?_
      go_wp2
      go_ret
      exact ⟨rfl, ext_trans HBV.out hbc7⟩
    · have d2 : decide (1152921504606846976 < next) = false := by simpa using a2
      have hn2 : next ≤ 1152921504606846976 := by omega
      clear a2
      by_cases a3 : next < f + d
      · have d3 : decide (next < f + d) = true := by simpa using a3
        have HCH := Lib.hid (fun (W : World) (cs : Value) (h : Box W g (rcvCells ch t15 t35 cs f f fX true f (f + d))) => char_bad cs ch t15 t35 f f fX true f (f + d) next 0 0 7 g W h (.inr ⟨hn1, hn2, .inr a3, rfl⟩))
        have HDL := Lib.hid (fun (W : World) (cs : Value) (h : Box W g (rcvCells ch t15 t35 cs f f fX true f (f + d))) => show Calls Try.prog 21 #[.pointer (some ⟨g, 0, none⟩)] W (fun e w' => e = .returned (.tuple #[.int .i64 (f + t35 + ch), .bool true]) ∧ Below W.heap.size W w') from deadline_any ch t15 t35 cs f f fX true f (f + d) g W h hch1 hch2 hu1 hu2 hf1 (by omega))
        clear a3
        go_wp2_with fail
        refine (HCH.out _ _ HR4.out.1).mono ?_
        rintro e x ⟨rfl, hbx⟩
        unfold noFrame
        have hbx2 := ext_alloc hbx (.cells #[.slice none 0 0, .int .i64 0, .int .i64 0, .int .i64 0] 44)
        have HGX := Lib.hid (HR4.out.1.below hbx2)
        have HSB := Lib.hid (HS4.out.below hbx2)
        have HBW := Lib.hid (ext_trans HB4.out hbx2)
        clear hbx hbx2
        go_wp2_with fail
        refine (HDL.out _ _ HGX.out).mono ?_
        rintro e y ⟨rfl, hby⟩
        have HSY := Lib.hid (HSB.out.below hby)
        have hbW := ext_trans HBW.out hby
        have HBV := Lib.hid hbW
        clear hby hbW
        go_upto_region 22 with fail
        have hbc0 : Below y.heap.size y y.drew := below_drew (Below.refl _ _)
        have hS : (∀ i, y.drew.cell? ⟨g0, i, none⟩ = (#[.int .i64 b, .int .i64 p] : Array Value)[i]?) ∧ True ∧ True := ⟨HSY.out.1, trivial, trivial⟩
        refine rgs_start (fun w' => (∀ i, w'.cell? ⟨g0, i, none⟩ = (#[.int .i64 b, .int .i64 p] : Array Value)[i]?) ∧ True ∧ True) (by kernel_rfl) ?_
        refine rgs_c 0 (by kernel_rfl) rfl (by rfl) (fun K hK => ?_)
        go_simp
        refine (awake_any _).mono ?_
        rintro e x5 ⟨rfl, hb5⟩
        have hbc5 := ext_trans hbc0 hb5
        have hS5 : (∀ i, x5.cell? ⟨g0, i, none⟩ = (#[.int .i64 b, .int .i64 p] : Array Value)[i]?) ∧ True ∧ True := ⟨(HSY.out.below hbc5).1, trivial, trivial⟩
        refine hK _ _ hS5 ?_
        clear hK K
        try simp only [Act.put, List.setIfInBounds_toArray, List.set_cons_zero, List.set_cons_succ]
        refine rgs_t (v := ?_) (some 129) 1 (by kernel_rfl) rfl rfl (by assumption) (.inl ⟨by rfl, fun w' hw => ?_⟩) ?_
        rotate_left
        · obtain ⟨q1, q2, q3⟩ := hw; go_simp <;> with_reducible rfl
        try simp only [Act.put, List.setIfInBounds_toArray, List.set_cons_zero, List.set_cons_succ]
        refine rgs_t (v := ?_) (some 130) 2 (by kernel_rfl) rfl rfl (by assumption) (.inl ⟨by rfl, fun w' hw => ?_⟩) ?_
        rotate_left
        · obtain ⟨q1, q2, q3⟩ := hw; go_simp <;> with_reducible rfl
        try simp only [Act.put, List.setIfInBounds_toArray, List.set_cons_zero, List.set_cons_succ]
        refine rgs_t (v := ?_) (some 131) 3 (by kernel_rfl) rfl rfl (by assumption) (.inl ⟨by rfl, fun w' hw => ?_⟩) ?_
        rotate_left
        · obtain ⟨q1, q2, q3⟩ := hw; go_simp <;> with_reducible rfl
        try simp only [Act.put, List.setIfInBounds_toArray, List.set_cons_zero, List.set_cons_succ]
        refine rgs_t (v := ?_) (some 132) 4 (by kernel_rfl) rfl rfl (by assumption) (.inl ⟨by rfl, fun w' hw => ?_⟩) ?_
        rotate_left
        · obtain ⟨q1, q2, q3⟩ := hw; go_simp <;> with_reducible rfl
        try simp only [Act.put, List.setIfInBounds_toArray, List.set_cons_zero, List.set_cons_succ]
        refine rgs_t (v := ?_) (some 133) 5 (by kernel_rfl) rfl rfl (by assumption) (.inl ⟨by rfl, fun w' hw => ?_⟩) ?_
        rotate_left
        · obtain ⟨q1, q2, q3⟩ := hw; go_simp <;> with_reducible rfl
        try simp only [Act.put, List.setIfInBounds_toArray, List.set_cons_zero, List.set_cons_succ]
        refine rgs_t (v := ?_) (some 134) 6 (by kernel_rfl) rfl rfl (by assumption) (.inl ⟨by rfl, fun w' hw => ?_⟩) ?_
        rotate_left
        · obtain ⟨q1, q2, q3⟩ := hw; go_simp <;> with_reducible rfl
        try simp only [Act.put, List.setIfInBounds_toArray, List.set_cons_zero, List.set_cons_succ]
        refine rgs_t (v := ?_) (some 135) 7 (by kernel_rfl) rfl rfl (by assumption) (.inl ⟨by rfl, fun w' hw => ?_⟩) ?_
        rotate_left
        · obtain ⟨q1, q2, q3⟩ := hw; go_simp <;> with_reducible rfl
        try simp only [Act.put, List.setIfInBounds_toArray, List.set_cons_zero, List.set_cons_succ]
        refine rgs_t (v := ?_) (some 136) 8 (by kernel_rfl) rfl rfl (by assumption) (.inl ⟨by rfl, fun w' hw => ?_⟩) ?_
        rotate_left
        · obtain ⟨q1, q2, q3⟩ := hw; go_simp <;> with_reducible rfl
        try simp only [Act.put, List.setIfInBounds_toArray, List.set_cons_zero, List.set_cons_succ]
        refine rgs_t (v := ?_) (some 137) 9 (by kernel_rfl) rfl rfl (by assumption) (.inl ⟨by rfl, fun w' hw => ?_⟩) ?_
        rotate_left
        · obtain ⟨q1, q2, q3⟩ := hw; go_simp <;> with_reducible rfl
        try simp only [Act.put, List.setIfInBounds_toArray, List.set_cons_zero, List.set_cons_succ]
        refine rgs_t (v := ?_) (some 138) 10 (by kernel_rfl) rfl rfl (by assumption) (.inl ⟨by rfl, fun w' hw => ?_⟩) ?_
        rotate_left
        · obtain ⟨q1, q2, q3⟩ := hw; go_simp <;> with_reducible rfl
        try simp only [Act.put, List.setIfInBounds_toArray, List.set_cons_zero, List.set_cons_succ]
        refine rgs_t (v := ?_) (some 139) 11 (by kernel_rfl) rfl rfl (by assumption) (.inl ⟨by rfl, fun w' hw => ?_⟩) ?_
        rotate_left
        · obtain ⟨q1, q2, q3⟩ := hw; go_simp <;> with_reducible rfl
        try simp only [Act.put, List.setIfInBounds_toArray, List.set_cons_zero, List.set_cons_succ]
        refine rgs_t (v := ?_) (some 140) 12 (by kernel_rfl) rfl rfl (by assumption) (.inl ⟨by rfl, fun w' hw => ?_⟩) ?_
        rotate_left
        · obtain ⟨q1, q2, q3⟩ := hw; go_simp <;> with_reducible rfl
        try simp only [Act.put, List.setIfInBounds_toArray, List.set_cons_zero, List.set_cons_succ]
        refine rgs_t (v := ?_) (some 141) 13 (by kernel_rfl) rfl rfl (by assumption) (.inl ⟨by rfl, fun w' hw => ?_⟩) ?_
        rotate_left
        · obtain ⟨q1, q2, q3⟩ := hw; go_simp <;> with_reducible rfl
        try simp only [Act.put, List.setIfInBounds_toArray, List.set_cons_zero, List.set_cons_succ]
        refine rgs_t (v := ?_) (some 142) 14 (by kernel_rfl) rfl rfl (by assumption) (.inl ⟨by rfl, fun w' hw => ?_⟩) ?_
        rotate_left
        · obtain ⟨q1, q2, q3⟩ := hw; go_simp <;> with_reducible rfl
        try simp only [Act.put, List.setIfInBounds_toArray, List.set_cons_zero, List.set_cons_succ]
        refine rgs_t (v := ?_) (some 143) 15 (by kernel_rfl) rfl rfl (by assumption) (.inl ⟨by rfl, fun w' hw => ?_⟩) ?_
        rotate_left
        · obtain ⟨q1, q2, q3⟩ := hw; go_simp <;> with_reducible rfl
        try simp only [Act.put, List.setIfInBounds_toArray, List.set_cons_zero, List.set_cons_succ]
        refine rgs_t (v := ?_) (some 146) 18 (by kernel_rfl) rfl rfl (by assumption) (.inl ⟨by rfl, fun w' hw => ?_⟩) ?_
        rotate_left
        · obtain ⟨q1, q2, q3⟩ := hw; go_simp <;> with_reducible rfl
        try simp only [Act.put, List.setIfInBounds_toArray, List.set_cons_zero, List.set_cons_succ]
        refine rgs_c 16 (by kernel_rfl) rfl (by rfl) (fun K hK => ?_)
        go_simp
        refine (HU.out _).mono ?_
        rintro e x6 ⟨rfl, hb6⟩
        have hbc6 := ext_trans hbc5 hb6
        have hS6 : (∀ i, x6.cell? ⟨g0, i, none⟩ = (#[.int .i64 b, .int .i64 p] : Array Value)[i]?) ∧ True ∧ True := ⟨(HSY.out.below hbc6).1, trivial, trivial⟩
        refine hK _ _ hS6 ?_
        clear hK K
        try simp only [Act.put, List.setIfInBounds_toArray, List.set_cons_zero, List.set_cons_succ]
        refine rgs_t (v := ?_) (some 145) 17 (by kernel_rfl) rfl rfl (by assumption) (.inl ⟨by rfl, fun w' hw => ?_⟩) ?_
        rotate_left
        · obtain ⟨q1, q2, q3⟩ := hw; go_simp <;> with_reducible rfl
        try simp only [Act.put, List.setIfInBounds_toArray, List.set_cons_zero, List.set_cons_succ]
        refine rgs_c 19 (by kernel_rfl) rfl (by rfl) (fun K hK => ?_)
        go_simp
        refine (HC.out _).mono ?_
        rintro e x7 ⟨rfl, hb7⟩
        have hbc7 := ext_trans hbc6 hb7
        have hS7 : (∀ i, x7.cell? ⟨g0, i, none⟩ = (#[.int .i64 b, .int .i64 p] : Array Value)[i]?) ∧ True ∧ True := ⟨(HSY.out.below hbc7).1, trivial, trivial⟩
        refine hK _ _ hS7 ?_
        clear hK K
        try simp only [Act.put, List.setIfInBounds_toArray, List.set_cons_zero, List.set_cons_succ]
        refine rgs_t (v := ?_) (some 148) 20 (by kernel_rfl) rfl rfl (by assumption) (.inl ⟨by rfl, fun w' hw => ?_⟩) ?_
        rotate_left
        · obtain ⟨q1, q2, q3⟩ := hw; go_simp <;> with_reducible rfl
        try simp only [Act.put, List.setIfInBounds_toArray, List.set_cons_zero, List.set_cons_succ]
        refine rgs_t (v := ?_) (some 149) 21 (by kernel_rfl) rfl rfl (by assumption) (.inl ⟨by rfl, fun w' hw => ?_⟩) ?_
        rotate_left
        · obtain ⟨q1, q2, q3⟩ := hw; go_simp <;> with_reducible rfl
        try simp only [Act.put, List.setIfInBounds_toArray, List.set_cons_zero, List.set_cons_succ]
        refine rgs_t (v := ?_) (some 150) 22 (by kernel_rfl) rfl rfl (by assumption) (.inl ⟨by rfl, fun w' hw => ?_⟩) ?_
        rotate_left
        · obtain ⟨q1, q2, q3⟩ := hw; go_simp <;> with_reducible rfl
        try simp only [Act.put, List.setIfInBounds_toArray, List.set_cons_zero, List.set_cons_succ]
        refine rgs_t (v := ?_) (some 151) 23 (by kernel_rfl) rfl rfl (by assumption) (.inl ⟨by rfl, fun w' hw => ?_⟩) ?_
        rotate_left
        · obtain ⟨q1, q2, q3⟩ := hw; go_simp <;> with_reducible rfl
        try simp only [Act.put, List.setIfInBounds_toArray, List.set_cons_zero, List.set_cons_succ]
        refine rgs_t (v := ?_) (some 8) 24 (by kernel_rfl) rfl rfl (by assumption) (.inl ⟨by rfl, fun w' hw => ?_⟩) ?_
        rotate_left
        · obtain ⟨q1, q2, q3⟩ := hw; go_simp <;> with_reducible rfl
        try simp only [Act.put, List.setIfInBounds_toArray, List.set_cons_zero, List.set_cons_succ]
        refine rgs_d (by kernel_rfl) ?_
        go_wp2
        go_ret
        exact ⟨rfl, ext_trans HBV.out hbc7⟩
      · have d3 : decide (next < f + d) = false := by simpa using a3
        have hn3 : f + d ≤ next := by omega
        clear a3
        by_cases hend : t35 ≤ max 0 (next - ch - f)
        · have HCH := Lib.hid (fun (W : World) (h : RB W g v ch t15 t35 [0] f f fX true f (f + d)) => char_end ch t15 t35 [0] _ v f f fX f (f + d) next 0 0 _ g W h rfl hch1 hch2 hf1 hn1 hn2 (by omega) hn3 rfl hend)
          have HDL := Lib.hid (fun (W : World) (v2 : Value) (fi fl : Int) (h : Box W g (rcvCells ch t15 t35 v2 fi next fl true next (f + d))) => show Calls Try.prog 21 #[.pointer (some ⟨g, 0, none⟩)] W (fun e w' => e = .returned (.tuple #[.int .i64 (next + t35 + ch), .bool true]) ∧ Below W.heap.size W w') from deadline_any ch t15 t35 v2 fi next fl true next (f + d) g W h hch1 hch2 hu1 hu2 hn1 hn2)
          have hv0 : ∀ q, v.ownBlock = some q → g + 1 ≤ q := fun q hq => (HR4.out.2.lt q hq).1
          go_wp2_with fail
          refine (HCH.out _ HR4.out).mono ?_
          rintro e x ⟨A2, n2, c2, hv2, rfl, v2, hRx, hvx, hcx⟩
          have HGX := Lib.hid (hRx.below ((Below.refl _ _).alloc (Nat.le_refl _) (.cells #[.slice A2 n2 c2, .int .i64 f, .int .i64 f, .int .i64 fX] 44))).1
          have HSB := Lib.hid ((HS4.out.chg hcx (by have := HG0.out; omega) (by intro e; cases e)).alloc' (.cells #[.slice A2 n2 c2, .int .i64 f, .int .i64 f, .int .i64 fX] 44))
          have HBW := Lib.hid ((below_chg HB4.out hcx HB4.out.size HGW.out (fun q hq => by cases hq)).alloc (Nat.le_trans HB4.out.size hcx.2.2.2.1) (.cells #[.slice A2 n2 c2, .int .i64 f, .int .i64 f, .int .i64 fX] 44))
          clear hRx hvx hcx hv0
          go_wp2_with fail
          refine (HDL.out _ _ _ _ HGX.out).mono ?_
          rintro e y ⟨rfl, hby⟩
          have HSY := Lib.hid (HSB.out.below hby)
          have hbW := ext_trans HBW.out hby
          have HBV := Lib.hid hbW
          clear hby hbW
          go_upto_region 22 with fail
          have hbc0 : Below y.heap.size y y.drew := below_drew (Below.refl _ _)
          have hS : (∀ i, y.drew.cell? ⟨g0, i, none⟩ = (#[.int .i64 b, .int .i64 p] : Array Value)[i]?) ∧ True ∧ True := ⟨HSY.out.1, trivial, trivial⟩
          refine rgs_start (fun w' => (∀ i, w'.cell? ⟨g0, i, none⟩ = (#[.int .i64 b, .int .i64 p] : Array Value)[i]?) ∧ True ∧ True) (by kernel_rfl) ?_
          refine rgs_c 0 (by kernel_rfl) rfl (by rfl) (fun K hK => ?_)
          go_simp
          refine (awake_any _).mono ?_
          rintro e x5 ⟨rfl, hb5⟩
          have hbc5 := ext_trans hbc0 hb5
          have hS5 : (∀ i, x5.cell? ⟨g0, i, none⟩ = (#[.int .i64 b, .int .i64 p] : Array Value)[i]?) ∧ True ∧ True := ⟨(HSY.out.below hbc5).1, trivial, trivial⟩
          refine hK _ _ hS5 ?_
          clear hK K
          try simp only [Act.put, List.setIfInBounds_toArray, List.set_cons_zero, List.set_cons_succ]
          refine rgs_t (v := ?_) (some 129) 1 (by kernel_rfl) rfl rfl (by assumption) (.inl ⟨by rfl, fun w' hw => ?_⟩) ?_
          rotate_left
          · obtain ⟨q1, q2, q3⟩ := hw; go_simp <;> with_reducible rfl
          try simp only [Act.put, List.setIfInBounds_toArray, List.set_cons_zero, List.set_cons_succ]
          refine rgs_t (v := ?_) (some 130) 2 (by kernel_rfl) rfl rfl (by assumption) (.inl ⟨by rfl, fun w' hw => ?_⟩) ?_
          rotate_left
          · obtain ⟨q1, q2, q3⟩ := hw; go_simp <;> with_reducible rfl
          try simp only [Act.put, List.setIfInBounds_toArray, List.set_cons_zero, List.set_cons_succ]
          refine rgs_t (v := ?_) (some 131) 3 (by kernel_rfl) rfl rfl (by assumption) (.inl ⟨by rfl, fun w' hw => ?_⟩) ?_
          rotate_left
          · obtain ⟨q1, q2, q3⟩ := hw; go_simp <;> with_reducible rfl
          try simp only [Act.put, List.setIfInBounds_toArray, List.set_cons_zero, List.set_cons_succ]
          refine rgs_t (v := ?_) (some 132) 4 (by kernel_rfl) rfl rfl (by assumption) (.inl ⟨by rfl, fun w' hw => ?_⟩) ?_
          rotate_left
          · obtain ⟨q1, q2, q3⟩ := hw; go_simp <;> with_reducible rfl
          try simp only [Act.put, List.setIfInBounds_toArray, List.set_cons_zero, List.set_cons_succ]
          refine rgs_t (v := ?_) (some 133) 5 (by kernel_rfl) rfl rfl (by assumption) (.inl ⟨by rfl, fun w' hw => ?_⟩) ?_
          rotate_left
          · obtain ⟨q1, q2, q3⟩ := hw; go_simp <;> with_reducible rfl
          try simp only [Act.put, List.setIfInBounds_toArray, List.set_cons_zero, List.set_cons_succ]
          refine rgs_t (v := ?_) (some 134) 6 (by kernel_rfl) rfl rfl (by assumption) (.inl ⟨by rfl, fun w' hw => ?_⟩) ?_
          rotate_left
          · obtain ⟨q1, q2, q3⟩ := hw; go_simp <;> with_reducible rfl
          try simp only [Act.put, List.setIfInBounds_toArray, List.set_cons_zero, List.set_cons_succ]
          refine rgs_t (v := ?_) (some 135) 7 (by kernel_rfl) rfl rfl (by assumption) (.inl ⟨by rfl, fun w' hw => ?_⟩) ?_
          rotate_left
          · obtain ⟨q1, q2, q3⟩ := hw; go_simp <;> with_reducible rfl
          try simp only [Act.put, List.setIfInBounds_toArray, List.set_cons_zero, List.set_cons_succ]
          refine rgs_t (v := ?_) (some 136) 8 (by kernel_rfl) rfl rfl (by assumption) (.inl ⟨by rfl, fun w' hw => ?_⟩) ?_
          rotate_left
          · obtain ⟨q1, q2, q3⟩ := hw; go_simp <;> with_reducible rfl
          try simp only [Act.put, List.setIfInBounds_toArray, List.set_cons_zero, List.set_cons_succ]
          refine rgs_t (v := ?_) (some 137) 9 (by kernel_rfl) rfl rfl (by assumption) (.inl ⟨by rfl, fun w' hw => ?_⟩) ?_
          rotate_left
          · obtain ⟨q1, q2, q3⟩ := hw; go_simp <;> with_reducible rfl
          try simp only [Act.put, List.setIfInBounds_toArray, List.set_cons_zero, List.set_cons_succ]
          refine rgs_t (v := ?_) (some 138) 10 (by kernel_rfl) rfl rfl (by assumption) (.inl ⟨by rfl, fun w' hw => ?_⟩) ?_
          rotate_left
          · obtain ⟨q1, q2, q3⟩ := hw; go_simp <;> with_reducible rfl
          try simp only [Act.put, List.setIfInBounds_toArray, List.set_cons_zero, List.set_cons_succ]
          refine rgs_t (v := ?_) (some 139) 11 (by kernel_rfl) rfl rfl (by assumption) (.inl ⟨by rfl, fun w' hw => ?_⟩) ?_
          rotate_left
          · obtain ⟨q1, q2, q3⟩ := hw; go_simp <;> with_reducible rfl
          try simp only [Act.put, List.setIfInBounds_toArray, List.set_cons_zero, List.set_cons_succ]
          refine rgs_t (v := ?_) (some 140) 12 (by kernel_rfl) rfl rfl (by assumption) (.inl ⟨by rfl, fun w' hw => ?_⟩) ?_
          rotate_left
          · obtain ⟨q1, q2, q3⟩ := hw; go_simp <;> with_reducible rfl
          try simp only [Act.put, List.setIfInBounds_toArray, List.set_cons_zero, List.set_cons_succ]
          refine rgs_t (some 141) 13 (by kernel_rfl) rfl rfl (by assumption) (.inr ⟨by rfl, rfl⟩) ?_
          try simp only [Act.put, List.setIfInBounds_toArray, List.set_cons_zero, List.set_cons_succ]
          refine rgs_t (some 142) 14 (by kernel_rfl) rfl rfl (by assumption) (.inr ⟨by rfl, rfl⟩) ?_
          try simp only [Act.put, List.setIfInBounds_toArray, List.set_cons_zero, List.set_cons_succ]
          refine rgs_t (some 143) 15 (by kernel_rfl) rfl rfl (by assumption) (.inr ⟨by rfl, rfl⟩) ?_
          try simp only [Act.put, List.setIfInBounds_toArray, List.set_cons_zero, List.set_cons_succ]
          refine rgs_t (some 144) 16 (by kernel_rfl) rfl rfl (by assumption) (.inr ⟨by rfl, rfl⟩) ?_
          try simp only [Act.put, List.setIfInBounds_toArray, List.set_cons_zero, List.set_cons_succ]
          refine rgs_t (some 145) 17 (by kernel_rfl) rfl rfl (by assumption) (.inr ⟨by rfl, rfl⟩) ?_
          try simp only [Act.put, List.setIfInBounds_toArray, List.set_cons_zero, List.set_cons_succ]
          refine rgs_t (some 146) 18 (by kernel_rfl) rfl rfl (by assumption) (.inr ⟨by rfl, rfl⟩) ?_
          try simp only [Act.put, List.setIfInBounds_toArray, List.set_cons_zero, List.set_cons_succ]
          refine rgs_t (some 147) 19 (by kernel_rfl) rfl rfl (by assumption) (.inr ⟨by rfl, rfl⟩) ?_
          try simp only [Act.put, List.setIfInBounds_toArray, List.set_cons_zero, List.set_cons_succ]
          refine rgs_t (some 148) 20 (by kernel_rfl) rfl rfl (by assumption) (.inr ⟨by rfl, rfl⟩) ?_
          try simp only [Act.put, List.setIfInBounds_toArray, List.set_cons_zero, List.set_cons_succ]
          refine rgs_t (some 149) 21 (by kernel_rfl) rfl rfl (by assumption) (.inr ⟨by rfl, rfl⟩) ?_
          try simp only [Act.put, List.setIfInBounds_toArray, List.set_cons_zero, List.set_cons_succ]
          refine rgs_t (v := ?_) (some 150) 22 (by kernel_rfl) rfl rfl (by assumption) (.inl ⟨by rfl, fun w' hw => ?_⟩) ?_
          rotate_left
          · obtain ⟨q1, q2, q3⟩ := hw; go_simp <;> with_reducible rfl
          try simp only [Act.put, List.setIfInBounds_toArray, List.set_cons_zero, List.set_cons_succ]
          refine rgs_t (v := ?_) (some 151) 23 (by kernel_rfl) rfl rfl (by assumption) (.inl ⟨by rfl, fun w' hw => ?_⟩) ?_
          rotate_left
          · obtain ⟨q1, q2, q3⟩ := hw; go_simp <;> with_reducible rfl
          try simp only [Act.put, List.setIfInBounds_toArray, List.set_cons_zero, List.set_cons_succ]
          refine rgs_t (v := ?_) (some 8) 24 (by kernel_rfl) rfl rfl (by assumption) (.inl ⟨by rfl, fun w' hw => ?_⟩) ?_
          rotate_left
          · obtain ⟨q1, q2, q3⟩ := hw; go_simp <;> with_reducible rfl
          try simp only [Act.put, List.setIfInBounds_toArray, List.set_cons_zero, List.set_cons_succ]
          refine rgs_d (by kernel_rfl) ?_
          go_wp2
          go_ret
          exact ⟨rfl, ext_trans HBV.out hbc5⟩
        · have HCH := Lib.hid (fun (W : World) (h : RB W g v ch t15 t35 [0] f f fX true f (f + d)) => char_keep ch t15 t35 [0] _ _ _ v f f fX true f (f + d) next 0 0 _ g W h (by simp) rfl rfl rfl hch1 hch2 hf1 hn1 hn2 (by omega) hn3 rfl (.inr (by omega)))
          have HDL := Lib.hid (fun (W : World) (v2 : Value) (fi fl : Int) (h : Box W g (rcvCells ch t15 t35 v2 fi next fl true next (f + d))) => show Calls Try.prog 21 #[.pointer (some ⟨g, 0, none⟩)] W (fun e w' => e = .returned (.tuple #[.int .i64 (next + t35 + ch), .bool true]) ∧ Below W.heap.size W w') from deadline_any ch t15 t35 v2 fi next fl true next (f + d) g W h hch1 hch2 hu1 hu2 hn1 hn2)
          have hv0 : ∀ q, v.ownBlock = some q → g + 1 ≤ q := fun q hq => (HR4.out.2.lt q hq).1
          go_wp2_with fail
          refine (HCH.out _ HR4.out).mono ?_
          rintro e x ⟨rfl, v2, hRx, hvx, hcx⟩
          unfold noFrame
          have HGX := Lib.hid (hRx.below ((Below.refl _ _).alloc (Nat.le_refl _) (.cells #[.slice none 0 0, .int .i64 0, .int .i64 0, .int .i64 0] 44))).1
          have HSB := Lib.hid ((HS4.out.chg hcx (by have := HG0.out; omega) (fun e => by have := hv0 _ e.symm; have := HG0.out; omega)).alloc' (.cells #[.slice none 0 0, .int .i64 0, .int .i64 0, .int .i64 0] 44))
          have HBW := Lib.hid ((below_chg HB4.out hcx HB4.out.size HGW.out (fun q hq => by have := hv0 q hq; have := HGW.out; omega)).alloc (Nat.le_trans HB4.out.size hcx.2.2.2.1) (.cells #[.slice none 0 0, .int .i64 0, .int .i64 0, .int .i64 0] 44))
          clear hRx hvx hcx hv0
          go_wp2_with fail
          refine (HDL.out _ _ _ _ HGX.out).mono ?_
          rintro e y ⟨rfl, hby⟩
          have HSY := Lib.hid (HSB.out.below hby)
          have hbW := ext_trans HBW.out hby
          have HBV := Lib.hid hbW
          clear hby hbW
          go_upto_region 22 with fail
          have hbc0 : Below y.heap.size y y.drew := below_drew (Below.refl _ _)
          have hS : (∀ i, y.drew.cell? ⟨g0, i, none⟩ = (#[.int .i64 b, .int .i64 p] : Array Value)[i]?) ∧ True ∧ True := ⟨HSY.out.1, trivial, trivial⟩
          refine rgs_start (fun w' => (∀ i, w'.cell? ⟨g0, i, none⟩ = (#[.int .i64 b, .int .i64 p] : Array Value)[i]?) ∧ True ∧ True) (by kernel_rfl) ?_
          refine rgs_c 0 (by kernel_rfl) rfl (by rfl) (fun K hK => ?_)
          go_simp
          refine (awake_any _).mono ?_
          rintro e x5 ⟨rfl, hb5⟩
          have hbc5 := ext_trans hbc0 hb5
          have hS5 : (∀ i, x5.cell? ⟨g0, i, none⟩ = (#[.int .i64 b, .int .i64 p] : Array Value)[i]?) ∧ True ∧ True := ⟨(HSY.out.below hbc5).1, trivial, trivial⟩
          refine hK _ _ hS5 ?_
          clear hK K
          try simp only [Act.put, List.setIfInBounds_toArray, List.set_cons_zero, List.set_cons_succ]
          refine rgs_t (v := ?_) (some 129) 1 (by kernel_rfl) rfl rfl (by assumption) (.inl ⟨by rfl, fun w' hw => ?_⟩) ?_
          rotate_left
          · obtain ⟨q1, q2, q3⟩ := hw; go_simp <;> with_reducible rfl
          try simp only [Act.put, List.setIfInBounds_toArray, List.set_cons_zero, List.set_cons_succ]
          refine rgs_t (v := ?_) (some 130) 2 (by kernel_rfl) rfl rfl (by assumption) (.inl ⟨by rfl, fun w' hw => ?_⟩) ?_
          rotate_left
          · obtain ⟨q1, q2, q3⟩ := hw; go_simp <;> with_reducible rfl
          try simp only [Act.put, List.setIfInBounds_toArray, List.set_cons_zero, List.set_cons_succ]
          refine rgs_t (v := ?_) (some 131) 3 (by kernel_rfl) rfl rfl (by assumption) (.inl ⟨by rfl, fun w' hw => ?_⟩) ?_
          rotate_left
          · obtain ⟨q1, q2, q3⟩ := hw; go_simp <;> with_reducible rfl
          try simp only [Act.put, List.setIfInBounds_toArray, List.set_cons_zero, List.set_cons_succ]
          refine rgs_t (v := ?_) (some 132) 4 (by kernel_rfl) rfl rfl (by assumption) (.inl ⟨by rfl, fun w' hw => ?_⟩) ?_
          rotate_left
          · obtain ⟨q1, q2, q3⟩ := hw; go_simp <;> with_reducible rfl
          try simp only [Act.put, List.setIfInBounds_toArray, List.set_cons_zero, List.set_cons_succ]
          refine rgs_t (v := ?_) (some 133) 5 (by kernel_rfl) rfl rfl (by assumption) (.inl ⟨by rfl, fun w' hw => ?_⟩) ?_
          rotate_left
          · obtain ⟨q1, q2, q3⟩ := hw; go_simp <;> with_reducible rfl
          try simp only [Act.put, List.setIfInBounds_toArray, List.set_cons_zero, List.set_cons_succ]
          refine rgs_t (v := ?_) (some 134) 6 (by kernel_rfl) rfl rfl (by assumption) (.inl ⟨by rfl, fun w' hw => ?_⟩) ?_
          rotate_left
          · obtain ⟨q1, q2, q3⟩ := hw; go_simp <;> with_reducible rfl
          try simp only [Act.put, List.setIfInBounds_toArray, List.set_cons_zero, List.set_cons_succ]
          refine rgs_t (v := ?_) (some 135) 7 (by kernel_rfl) rfl rfl (by assumption) (.inl ⟨by rfl, fun w' hw => ?_⟩) ?_
          rotate_left
          · obtain ⟨q1, q2, q3⟩ := hw; go_simp <;> with_reducible rfl
          try simp only [Act.put, List.setIfInBounds_toArray, List.set_cons_zero, List.set_cons_succ]
          refine rgs_t (v := ?_) (some 136) 8 (by kernel_rfl) rfl rfl (by assumption) (.inl ⟨by rfl, fun w' hw => ?_⟩) ?_
          rotate_left
          · obtain ⟨q1, q2, q3⟩ := hw; go_simp <;> with_reducible rfl
          try simp only [Act.put, List.setIfInBounds_toArray, List.set_cons_zero, List.set_cons_succ]
          refine rgs_t (v := ?_) (some 137) 9 (by kernel_rfl) rfl rfl (by assumption) (.inl ⟨by rfl, fun w' hw => ?_⟩) ?_
          rotate_left
          · obtain ⟨q1, q2, q3⟩ := hw; go_simp <;> with_reducible rfl
          try simp only [Act.put, List.setIfInBounds_toArray, List.set_cons_zero, List.set_cons_succ]
          refine rgs_t (v := ?_) (some 138) 10 (by kernel_rfl) rfl rfl (by assumption) (.inl ⟨by rfl, fun w' hw => ?_⟩) ?_
          rotate_left
          · obtain ⟨q1, q2, q3⟩ := hw; go_simp <;> with_reducible rfl
          try simp only [Act.put, List.setIfInBounds_toArray, List.set_cons_zero, List.set_cons_succ]
          refine rgs_t (v := ?_) (some 139) 11 (by kernel_rfl) rfl rfl (by assumption) (.inl ⟨by rfl, fun w' hw => ?_⟩) ?_
          rotate_left
          · obtain ⟨q1, q2, q3⟩ := hw; go_simp <;> with_reducible rfl
          try simp only [Act.put, List.setIfInBounds_toArray, List.set_cons_zero, List.set_cons_succ]
          refine rgs_t (v := ?_) (some 140) 12 (by kernel_rfl) rfl rfl (by assumption) (.inl ⟨by rfl, fun w' hw => ?_⟩) ?_
          rotate_left
          · obtain ⟨q1, q2, q3⟩ := hw; go_simp <;> with_reducible rfl
          try simp only [Act.put, List.setIfInBounds_toArray, List.set_cons_zero, List.set_cons_succ]
          refine rgs_t (some 141) 13 (by kernel_rfl) rfl rfl (by assumption) (.inr ⟨by rfl, rfl⟩) ?_
          try simp only [Act.put, List.setIfInBounds_toArray, List.set_cons_zero, List.set_cons_succ]
          refine rgs_t (some 142) 14 (by kernel_rfl) rfl rfl (by assumption) (.inr ⟨by rfl, rfl⟩) ?_
          try simp only [Act.put, List.setIfInBounds_toArray, List.set_cons_zero, List.set_cons_succ]
          refine rgs_t (some 143) 15 (by kernel_rfl) rfl rfl (by assumption) (.inr ⟨by rfl, rfl⟩) ?_
          try simp only [Act.put, List.setIfInBounds_toArray, List.set_cons_zero, List.set_cons_succ]
          refine rgs_t (some 144) 16 (by kernel_rfl) rfl rfl (by assumption) (.inr ⟨by rfl, rfl⟩) ?_
          try simp only [Act.put, List.setIfInBounds_toArray, List.set_cons_zero, List.set_cons_succ]
          refine rgs_t (some 145) 17 (by kernel_rfl) rfl rfl (by assumption) (.inr ⟨by rfl, rfl⟩) ?_
          try simp only [Act.put, List.setIfInBounds_toArray, List.set_cons_zero, List.set_cons_succ]
          refine rgs_t (some 146) 18 (by kernel_rfl) rfl rfl (by assumption) (.inr ⟨by rfl, rfl⟩) ?_
          try simp only [Act.put, List.setIfInBounds_toArray, List.set_cons_zero, List.set_cons_succ]
          refine rgs_t (some 147) 19 (by kernel_rfl) rfl rfl (by assumption) (.inr ⟨by rfl, rfl⟩) ?_
          try simp only [Act.put, List.setIfInBounds_toArray, List.set_cons_zero, List.set_cons_succ]
          refine rgs_t (some 148) 20 (by kernel_rfl) rfl rfl (by assumption) (.inr ⟨by rfl, rfl⟩) ?_
          try simp only [Act.put, List.setIfInBounds_toArray, List.set_cons_zero, List.set_cons_succ]
          refine rgs_t (some 149) 21 (by kernel_rfl) rfl rfl (by assumption) (.inr ⟨by rfl, rfl⟩) ?_
          try simp only [Act.put, List.setIfInBounds_toArray, List.set_cons_zero, List.set_cons_succ]
          refine rgs_t (v := ?_) (some 150) 22 (by kernel_rfl) rfl rfl (by assumption) (.inl ⟨by rfl, fun w' hw => ?_⟩) ?_
          rotate_left
          · obtain ⟨q1, q2, q3⟩ := hw; go_simp <;> with_reducible rfl
          try simp only [Act.put, List.setIfInBounds_toArray, List.set_cons_zero, List.set_cons_succ]
          refine rgs_t (v := ?_) (some 151) 23 (by kernel_rfl) rfl rfl (by assumption) (.inl ⟨by rfl, fun w' hw => ?_⟩) ?_
          rotate_left
          · obtain ⟨q1, q2, q3⟩ := hw; go_simp <;> with_reducible rfl
          try simp only [Act.put, List.setIfInBounds_toArray, List.set_cons_zero, List.set_cons_succ]
          refine rgs_t (v := ?_) (some 8) 24 (by kernel_rfl) rfl rfl (by assumption) (.inl ⟨by rfl, fun w' hw => ?_⟩) ?_
          rotate_left
          · obtain ⟨q1, q2, q3⟩ := hw; go_simp <;> with_reducible rfl
          try simp only [Act.put, List.setIfInBounds_toArray, List.set_cons_zero, List.set_cons_succ]
          refine rgs_d (by kernel_rfl) ?_
          go_wp2
          go_ret
          exact ⟨rfl, ext_trans HBV.out hbc5⟩
end Go.Proofs.Ythgapllfjllnfaa

/- RunsSlice's walk (under way). -/
import Derived.Test.YtjbbkhoonenfjaaRunF
set_option linter.unusedVariables false
set_option linter.unusedSimpArgs false
namespace Go.Proofs.Ytjbbkhoonenfjaa
open Go.RowKit

section
variable {P : Program} {ops : Array Oper} {Q : Exit → Act → World → Prop} {S : World → Prop}
/-- Two operations may come up. -/
theorem rgs_c2 (i j : Nat) {oi oj : Oper} {fuel : Nat} {listed : Array Bool} {a : Act} {w : World} (hr : Region.ready .any ops listed = [i, j]) (hi : ops[i]? = some oi) (hj : ops[j]? = some oj) (hwi : Region.wanted oi (yielded ops a.tmps) = true) (hwj : Region.wanted oj (yielded ops a.tmps) = true)
    (h1 : ∀ K : Act → World → Prop, (∀ a' w', S w' → RgS P S ops Q fuel (listed.setIfInBounds i true) a' w' → K a' w') → oi.wp P a w K (QNS Q))
    (h2 : ∀ K : Act → World → Prop, (∀ a' w', S w' → RgS P S ops Q fuel (listed.setIfInBounds j true) a' w' → K a' w') → oj.wp P a w K (QNS Q)) : RgS P S ops Q (fuel + 1) listed a w := by
  refine wpAnyH_all hr (by simp) (fun k hk => ?_)
  have hk' : k = i ∨ k = j := by simpa using hk
  unfold wpOp
  rcases hk' with rfl | rfl
  · simp only [hi, hwi, if_true]
    exact .inl (h1 _ fun a' w' hb hR => ⟨hb, hR⟩)
  · simp only [hj, hwj, if_true]
    exact .inl (h2 _ fun a' w' hb hR => ⟨hb, hR⟩)
end

set_option maxRecDepth 100000 in
set_option maxHeartbeats 4000000 in
theorem lawSlice_any (l : List Int) (A : Option Addr) (n c : Nat) (f k x0 : Int) (w : World) (hr : Rd w w.heap.size 1 A n (i64s l)) (hm : n ≤ maxLen) (hf1 : -9223372036854775808 ≤ f) (hf2 : f ≤ 9223372036854775807) (hc1 : -9223372036854775808 ≤ k) (hc2 : k ≤ 9223372036854775807) :
    Calls Try.prog 9 #[.slice A n c, .int .i64 f, .int .i64 k, .int .i64 x0] w fun e w' => e = .returned (.bool true) ∧ Below w.heap.size w w' := by
  obtain ⟨vs, hv⟩ : ∃ vs, vals l = vs := ⟨_, rfl⟩
  obtain ⟨m, hvm⟩ : ∃ m, vs.length = m := ⟨_, rfl⟩
  have hm40 : m ≤ 40 := by rw [← hvm, ← hv, vals]; simp; omega
  obtain ⟨rs, hrs⟩ : ∃ rs, ofL vs = rs := ⟨_, rfl⟩
  have hsp := ofL_spec vs
  have hln := ofL_length vs
  have htt := ofL_tot vs
  rw [hrs] at hsp hln htt
  rw [hvm] at hln htt
  obtain ⟨rn, hrn⟩ : ∃ rn, rs.length = rn := ⟨_, rfl⟩
  obtain ⟨a, b, hab⟩ : ∃ a b, clipL f k m = (a, b) := ⟨_, _, rfl⟩
  have hin := fun (i : Nat) (hi : i < m) => in_clip i m f k hi
  rw [hab] at hin
  simp only at hin
  obtain ⟨cut, hcut, hcm⟩ : ∃ cut : Nat, x0 % ((m : Int) + 1) = cut ∧ cut ≤ m := by
    have h1 := Int.emod_nonneg x0 (show (m : Int) + 1 ≠ 0 by omega)
    have h2 := Int.emod_lt_of_pos x0 (show (0 : Int) < (m : Int) + 1 by omega)
    exact ⟨(x0 % ((m : Int) + 1)).toNat, by omega, by omega⟩
  have hap := cut_append rs vs cut hsp.1 hsp.2 (by omega) (by omega)
  rw [hvm] at hap
  obtain ⟨P1, hP1⟩ : ∃ P, partL rs 0 cut = P := ⟨_, rfl⟩
  obtain ⟨P2, hP2⟩ : ∃ P, partL rs (clipL (cut : Int) ((m : Int) - cut) m).1 (clipL (cut : Int) ((m : Int) - cut) m).2 = P := ⟨_, rfl⟩
  obtain ⟨P3, hP3⟩ : ∃ P, partL rs a b = P := ⟨_, rfl⟩
  obtain ⟨n1, hn1⟩ : ∃ n, P1.length = n := ⟨_, rfl⟩
  obtain ⟨n2, hn2⟩ : ∃ n, P2.length = n := ⟨_, rfl⟩
  obtain ⟨n3, hn3⟩ : ∃ n, P3.length = n := ⟨_, rfl⟩
  have g1 : P1.length ≤ rs.length := by rw [← hP1]; exact partGo_length _ _ 0 rs
  have g2 : P2.length ≤ rs.length := by rw [← hP2]; exact partGo_length _ _ 0 rs
  have g3 : P3.length ≤ rs.length := by rw [← hP3]; exact partGo_length _ _ 0 rs
  have u1 : tot P1 ≤ tot rs := by rw [← hP1]; exact partL_tot rs _ _
  have u2 : tot P2 ≤ tot rs := by rw [← hP2]; exact partL_tot rs _ _
  have m3 : Mx P3 := by rw [← hP3]; exact partL_Mx rs _ _ hsp.1
  have e3 : expand P3 = sel vs a b m := by rw [← hP3, partL_expand, hsp.2, ← hvm, sel_all]
  have sl := sel_length vs a b m
  have HV := Lib.hid (values_any l A n c _ w hr hm vs hv m hvm)
  have HM := Lib.hid (fun w => mod_eq x0 ((m : Int) + 1) cut (by omega) (by omega) hcut w)
  have HO := Lib.hid (fun (W : World) (A : Option Addr) (c : Nat) (h : Rd W W.heap.size 1 A m (i64s vs)) => of_any vs A m c _ W h (by omega))
  rw [hrs] at HO
  have HIN := Lib.hid (fun (W : World) (i : Nat) (hi : i < m) (r : Bool) (hr : decide (a ≤ i ∧ i < b) = r) => in_any i f k r W (by omega) (by omega) hf1 hf2 hc1 hc2 (by rw [hin i hi, hr]))
  have hS1 : ∀ (W : World) (A : Option Addr) (c : Nat), Rd W W.heap.size 2 A rn (rnCells rs) → Calls Try.prog 26 #[lv A rn c, .int .i64 0, .int .i64 cut] W (RetO W P1) := by
    intro W A c h
    have h1 := slice_own rs A rn c _ 0 (cut : Int) W h (by omega) (by omega) (by omega) (by omega) (by omega) (by omega)
    rw [htt, clip_head m cut hcm] at h1
    simp only [hP1] at h1
    exact h1
  have hS2 : ∀ (W : World) (A : Option Addr) (c : Nat) (y : Int), y = (m : Int) - cut → Rd W W.heap.size 2 A rn (rnCells rs) → Calls Try.prog 26 #[lv A rn c, .int .i64 cut, .int .i64 y] W (RetO W P2) := by
    intro W A c y hy h
    have h1 := slice_own rs A rn c _ (cut : Int) y W h (by omega) (by omega) (by omega) (by omega) (by omega) (by omega)
    rw [htt, hy] at h1
    rw [hP2] at h1
    rw [hy]
    exact h1
  have hS3 : ∀ (W : World) (A : Option Addr) (c : Nat), Rd W W.heap.size 2 A rn (rnCells rs) → Calls Try.prog 26 #[lv A rn c, .int .i64 f, .int .i64 k] W (RetL W P3) := by
    intro W A c h
    have h1 := slice_any rs A rn c _ f k W h (by omega) (by omega) hf1 hf2 hc1 hc2
    rw [htt, hab] at h1
    simp only [hP3] at h1
    exact h1
  have hAP : ∀ (W : World) (A A2 : Option Addr) (c c2 : Nat), Rd W W.heap.size 2 A n1 (rnCells P1) → Rd W W.heap.size 2 A2 n2 (rnCells P2) → Calls Try.prog 27 #[lv A n1 c, lv A2 n2 c2] W (RetO W rs) := by
    intro W A A2 c c2 h h2
    have h1 := append_own P1 P2 A A2 n1 c n2 c2 _ W h h2 (by omega) (by omega) (Nat.le_refl _) (by omega) (by omega)
    rw [← hP1, ← hP2, hap] at h1
    exact h1
  have HS1 := Lib.hid hS1
  have HS2 := Lib.hid hS2
  have HS3 := Lib.hid hS3
  have HAP := Lib.hid hAP
  have HIa := Lib.hid (fun (A A2 : Option Addr) (c c2 B B2 : Nat) (W : World) (h1 : Rd W B 2 A rn (rnCells rs)) (h2 : Rd W B2 1 A2 m (i64s vs)) => is_any rs vs A A2 rn c B m c2 B2 W h1 h2 hsp.1 hsp.2 (by omega) (by omega))
  obtain ⟨sn, hsn⟩ : ∃ sn, (sel vs a b m).length = sn := ⟨_, rfl⟩
  have HIb := Lib.hid (fun (A A2 : Option Addr) (c c2 B B2 : Nat) (W : World) (h1 : Rd W B 2 A n3 (rnCells P3)) (h2 : Rd W B2 1 A2 sn (i64s (sel vs a b m))) => is_any P3 _ A A2 n3 c B sn c2 B2 W h1 h2 m3 e3 (by omega) (by omega))
  have HEaa := Lib.hid (fun (W : World) (A A2 : Option Addr) (c c2 : Nat) (h : Rd W W.heap.size 2 A rn (rnCells rs)) (h2 : Rd W W.heap.size 2 A2 rn (rnCells rs)) => equal_any rs rs A A2 rn c rn c2 _ W h h2 (by omega) (by omega) (Nat.le_refl _) true (by simp))
  have HRN := Lib.hid hrn
  have HN1 := Lib.hid hn1
  have HN2 := Lib.hid hn2
  have HN3 := Lib.hid hn3
  have HSN := Lib.hid hsn
  have HVM := Lib.hid hvm
  clear hr hv hvm hrs hsp hrn hln htt hab hin hcut hap hP1 hP2 hP3 hn1 hn2 hn3 g1 g2 g3 u1 u2 m3 e3 sl hS1 hS2 hS3 hAP hsn hf1 hf2 hc1 hc2
  go_enter Try.func9, Try.ntmps9
  go_wp2_with fail
  refine HV.out.mono ?_
  rintro e w1 ⟨A1, c1, rfl, hown1, hb1⟩
  have hR1 := Rd.of_own hown1
  clear hown1
  go_wp2_with fail
  refine (HO.out _ _ _ hR1).mono ?_
  intro e w2 h
  obtain ⟨A2, c2, rfl, hR2, hb2⟩ := h.open_ rn HRN.out
  have hV2 := Lib.hid (((hR1.below hb2 (Nat.le_refl _)).more hb2.size).alloc' (.cells #[.slice A2 rn c2] 38) (Nat.le_refl _))
  have HR2 := Lib.hid (hR2.alloc' (.cells #[.slice A2 rn c2] 38) (Nat.le_refl _))
  have HB2 := Lib.hid (Box.alloc_ (w := w2) (cs := #[.slice A2 rn c2]) (e := 38))
  have hbw2 := ext_alloc (ext_trans hb1 hb2) (.cells #[.slice A2 rn c2] 38)
  obtain ⟨W0, hW0⟩ : ∃ W0, w2.alloc (.cells #[.slice A2 rn c2] 38) = W0 := ⟨_, rfl⟩
  rw [hW0] at hV2 HR2 HB2 hbw2
  have hs0 : w2.heap.size < W0.heap.size := HB2.out.2.2
  clear h hR1 hb1 hb2 hR2 HV HO
  go_wp2_with fail
  clear hW0
  go_loopw [11, 12] (fun v i wr => ∃ j : Nat, j ≤ m ∧ i = .int .i64 j ∧ wr.ownsRow W0.heap.size 3 1 v (sel vs a b j).length (i64s (sel vs a b j)) ∧ Below W0.heap.size W0 wr) (fun _ i _ => m - (intOf i).toNat)
  case atStart => exact ⟨0, by omega, rfl, by rw [sel_zero]; exact World.ownsRow_nil _ _ _ _, Below.refl _ _⟩
  case round =>
    obtain ⟨j, hj, rfl, hown, hbr⟩ := hrel
    have HOW := Lib.hid hown
    have hsl := sel_length vs a b j
    clear hown
    by_cases hlt : j < m
    · by_cases hi : a ≤ j ∧ j < b
      · have HI := Lib.hid (HIN.out wr j hlt true (by simpa using hi))
        have hnx := sel_in vs a b j (by rw [HVM.out]; exact hlt) hi
        obtain ⟨b1, o1, rfl, _, z0⟩ := int_at (hV2.out.below hbr (by omega)) j hlt
        obtain ⟨y, hy⟩ : ∃ y, vs.getD j 0 = y := ⟨_, rfl⟩
        rw [hy] at hnx z0
        have hnl : (sel vs a b (j + 1)).length = (sel vs a b j).length + 1 := by rw [hnx]; simp
        have HNX := Lib.hid hnx
        have HNL := Lib.hid hnl
        clear hi hnx hy hnl
        go_wp2_with fail
        refine HI.out.mono ?_
        rintro e w' ⟨rfl, rfl⟩
        go_wp2_with (at_builtin; refine wpList_app (.tmp 28) (.tmp 33) 33 W0.heap.size 3 _ 1 8 _ (sel vs a b j).length 1 1 _ Try.underlying33 intInfo rfl (by decide) rfl rfl rfl rfl HOW.out rfl (by simp [Value.oneCell']) (by omega) (by omega) hbr.size ?_; intro v1 w1 hown1 hg1 hb1)
        refine ⟨⟨j + 1, by omega, by go_num, ?_, hbr.trans hb1⟩, by simp [intOf]; omega⟩
        rw [HNL.out, HNX.out]
        simpa using hown1
      · have HI := Lib.hid (HIN.out wr j hlt false (by simpa using hi))
        have hnx := sel_out vs a b j hi
        have HNX := Lib.hid hnx
        clear hi hnx
        go_wp2_with fail
        refine HI.out.mono ?_
        rintro e w' ⟨rfl, rfl⟩
        go_wp2
        exact ⟨⟨j + 1, by omega, by go_num, by rw [HNX.out]; exact HOW.out, hbr⟩, by simp [intOf]; omega⟩
    · obtain rfl : j = m := by omega
      have hown := HOW.out
      rw [HSN.out] at hown
      obtain ⟨A5, c5, hv5, _, _⟩ := own_form hown
      subst hv5
      have W5 := Lib.hid (Rd.of_own hown)
      clear hown HOW
      go_wp2_with fail
      refine (HM.out _).mono ?_
      rintro e w' ⟨rfl, rfl⟩
      go_wp2_with fail
      have HA := Lib.hid (HB2.out.below hbr).drew
      have HRr := Lib.hid (show Rd wr.drew w2.heap.size 2 A2 rn (rnCells rs) from HR2.out.below (below_drew hbr) (by omega))
      have HVv := Lib.hid (show Rd wr.drew w2.heap.size 1 A1 j (i64s vs) from hV2.out.below (below_drew hbr) (by omega))
      have HWw := Lib.hid (show Rd wr.drew wr.heap.size 1 A5 sn (i64s (sel vs a b j)) from W5.out)
      have hbw := below_drew (ext_trans hbw2 hbr)
      have hBr : wr.heap.size ≤ wr.drew.heap.size := Nat.le_refl _
      have hB : w2.heap.size ≤ wr.drew.heap.size := by have := hbr.size; show w2.heap.size ≤ wr.heap.size; omega
      have hw2r : w2.heap.size < wr.heap.size := by have := hbr.size; omega
      have hwr : w.heap.size ≤ wr.heap.size := hbw.size
      have hS : (∀ i, wr.drew.cell? ⟨w2.heap.size, i, none⟩ = (#[.slice A2 rn c2] : Array Value)[i]?) ∧ True ∧ True := ⟨HA.out.1, trivial, trivial⟩
      clear W5 HR2 hV2 HB2 hbr hbw2
      refine rgs_start (fun w' => (∀ i, w'.cell? ⟨w2.heap.size, i, none⟩ = (#[.slice A2 rn c2] : Array Value)[i]?) ∧ True ∧ True) (by kernel_rfl) ?_
      refine rgs_t (v := ?_) (some 40) 0 (by kernel_rfl) rfl rfl (by assumption) (.inl ⟨by rfl, fun w' hw => ?_⟩) ?_
      rotate_left
      · obtain ⟨q1, q2, q3⟩ := hw; go_simp <;> with_reducible rfl
      try simp only [Act.put, List.setIfInBounds_toArray, List.set_cons_zero, List.set_cons_succ]
      refine rgs_t (v := ?_) (some 41) 1 (by kernel_rfl) rfl rfl (by assumption) (.inl ⟨by rfl, fun w' hw => ?_⟩) ?_
      rotate_left
      · obtain ⟨q1, q2, q3⟩ := hw; go_simp <;> with_reducible rfl
      try simp only [Act.put, List.setIfInBounds_toArray, List.set_cons_zero, List.set_cons_succ]
      refine rgs_t (v := ?_) (some 43) 3 (by kernel_rfl) rfl rfl (by assumption) (.inl ⟨by rfl, fun w' hw => ?_⟩) ?_
      rotate_left
      · obtain ⟨q1, q2, q3⟩ := hw; go_simp <;> with_reducible rfl
      try simp only [Act.put, List.setIfInBounds_toArray, List.set_cons_zero, List.set_cons_succ]
      refine rgs_t (v := ?_) (some 44) 4 (by kernel_rfl) rfl rfl (by assumption) (.inl ⟨by rfl, fun w' hw => ?_⟩) ?_
      rotate_left
      · obtain ⟨q1, q2, q3⟩ := hw; go_simp <;> with_reducible rfl
      try simp only [Act.put, List.setIfInBounds_toArray, List.set_cons_zero, List.set_cons_succ]
      refine rgs_t (v := ?_) (some 45) 5 (by kernel_rfl) rfl rfl (by assumption) (.inl ⟨by rfl, fun w' hw => ?_⟩) ?_
      rotate_left
      · obtain ⟨q1, q2, q3⟩ := hw; go_simp <;> with_reducible rfl
      try simp only [Act.put, List.setIfInBounds_toArray, List.set_cons_zero, List.set_cons_succ]
      refine rgs_t (v := ?_) (some 46) 6 (by kernel_rfl) rfl rfl (by assumption) (.inl ⟨by rfl, fun w' hw => ?_⟩) ?_
      rotate_left
      · obtain ⟨q1, q2, q3⟩ := hw; go_simp <;> with_reducible rfl
      try simp only [Act.put, List.setIfInBounds_toArray, List.set_cons_zero, List.set_cons_succ]
      refine rgs_t (v := ?_) (some 47) 7 (by kernel_rfl) rfl rfl (by assumption) (.inl ⟨by rfl, fun w' hw => ?_⟩) ?_
      rotate_left
      · obtain ⟨q1, q2, q3⟩ := hw; go_simp <;> with_reducible rfl
      try simp only [Act.put, List.setIfInBounds_toArray, List.set_cons_zero, List.set_cons_succ]
      refine rgs_t (v := ?_) (some 48) 8 (by kernel_rfl) rfl rfl (by assumption) (.inl ⟨by rfl, fun w' hw => ?_⟩) ?_
      rotate_left
      · obtain ⟨q1, q2, q3⟩ := hw; go_simp <;> with_reducible rfl
      try simp only [Act.put, List.setIfInBounds_toArray, List.set_cons_zero, List.set_cons_succ]
      refine rgs_c2 2 11 (by kernel_rfl) rfl rfl (by rfl) (by rfl) (fun K hK => ?_) (fun K hK => ?_)
      · go_simp
        refine (HS1.out _ _ _ (HRr.out.more hB)).mono ?_
        intro e x1 h
        obtain ⟨A6, c6, rfl, hp, hb, hq⟩ := h.open_ n1 HN1.out
        clear h
        have HA := Lib.hid (HA.out.below hb)
        have HRr := Lib.hid (HRr.out.below hb hB)
        have HVv := Lib.hid (HVv.out.below hb hB)
        have HWw := Lib.hid (HWw.out.below hb hBr)
        have hbw := ext_trans hbw hb
        have hB := Nat.le_trans hB hb.size
        have hBr := Nat.le_trans hBr hb.size
        have hS : (∀ i, x1.cell? ⟨w2.heap.size, i, none⟩ = (#[.slice A2 rn c2] : Array Value)[i]?) ∧ True ∧ True := ⟨HA.out.1, trivial, trivial⟩
        have HP1 := Lib.hid hp
        clear hp hq hb
        refine hK _ _ hS ?_
        clear hK K
        try simp only [Act.put, List.setIfInBounds_toArray, List.set_cons_zero, List.set_cons_succ]
        refine rgs_c2 9 11 (by kernel_rfl) rfl rfl (by rfl) (by rfl) (fun K hK => ?_) (fun K hK => ?_)
        · go_simp
          refine (HS2.out _ _ _ _ (by first | rfl | exact IntWalk.i64_in _ ⟨by omega, by omega⟩) (HRr.out.more hB)).mono ?_
          intro e x2 h
          obtain ⟨A7, c7, rfl, hp, hb, hq⟩ := h.open_ n2 HN2.out
          clear h
          have HA := Lib.hid (HA.out.below hb)
          have HRr := Lib.hid (HRr.out.below hb hB)
          have HVv := Lib.hid (HVv.out.below hb hB)
          have HWw := Lib.hid (HWw.out.below hb hBr)
          have hbw := ext_trans hbw hb
          have HP1 := Lib.hid ((HP1.out.below hb (Nat.le_refl _)).more hb.size)
          have hB := Nat.le_trans hB hb.size
          have hBr := Nat.le_trans hBr hb.size
          have hS : (∀ i, x2.cell? ⟨w2.heap.size, i, none⟩ = (#[.slice A2 rn c2] : Array Value)[i]?) ∧ True ∧ True := ⟨HA.out.1, trivial, trivial⟩
          have HP2 := Lib.hid hp
          clear hp hq hb
          refine hK _ _ hS ?_
          clear hK K
          try simp only [Act.put, List.setIfInBounds_toArray, List.set_cons_zero, List.set_cons_succ]
          refine rgs_c2 10 11 (by kernel_rfl) rfl rfl (by rfl) (by rfl) (fun K hK => ?_) (fun K hK => ?_)
          · go_simp
            refine (HAP.out _ _ _ _ _ HP1.out HP2.out).mono ?_
            intro e x3 h
            obtain ⟨A8, c8, rfl, hp, hb, hq⟩ := h.open_ rn HRN.out
            clear h
            have HA := Lib.hid (HA.out.below hb)
            have HRr := Lib.hid (HRr.out.below hb hB)
            have HVv := Lib.hid (HVv.out.below hb hB)
            have HWw := Lib.hid (HWw.out.below hb hBr)
            have hbw := ext_trans hbw hb
            have HP1 := Lib.hid ((HP1.out.below hb (Nat.le_refl _)).more hb.size)
            have HP2 := Lib.hid ((HP2.out.below hb (Nat.le_refl _)).more hb.size)
            have hB := Nat.le_trans hB hb.size
            have hBr := Nat.le_trans hBr hb.size
            have hS : (∀ i, x3.cell? ⟨w2.heap.size, i, none⟩ = (#[.slice A2 rn c2] : Array Value)[i]?) ∧ True ∧ True := ⟨HA.out.1, trivial, trivial⟩
            have hlt8 := fun (b : Nat) (off : Nat) (hA : A8 = some ⟨b, off, none⟩) => (hq b off hA).2
            have HQ := Lib.hid hp
            clear hp hq hb
            refine hK _ _ hS ?_
            clear hK K
            try simp only [Act.put, List.setIfInBounds_toArray, List.set_cons_zero, List.set_cons_succ]
            refine rgs_c 11 (by kernel_rfl) rfl (by rfl) (fun K hK => ?_)
            go_simp
            have hb : Below x3.heap.size x3 (x3.alloc (.cells #[.slice none 0 0] 38)) := (Below.refl _ _).alloc (Nat.le_refl _) _
            have hg : Box (x3.alloc (.cells #[.slice none 0 0] 38)) x3.heap.size #[.slice none 0 0] := Box.alloc_
            have hne : ∀ b off, A8 = some ⟨b, off, none⟩ → b ≠ x3.heap.size := fun b off hA => Nat.ne_of_lt (hlt8 b off hA)
            clear hlt8
            have hgr : x3.heap.size ≥ wr.heap.size := hBr
            have HA := Lib.hid (HA.out.below hb)
            have HRr := Lib.hid (HRr.out.below hb hB)
            have HVv := Lib.hid (HVv.out.below hb hB)
            have HWw := Lib.hid (HWw.out.below hb hBr)
            have hbw := ext_trans hbw hb
            have HP1 := Lib.hid ((HP1.out.below hb (Nat.le_refl _)).more hb.size)
            have HP2 := Lib.hid ((HP2.out.below hb (Nat.le_refl _)).more hb.size)
            have HQ := Lib.hid ((HQ.out.below hb (Nat.le_refl _)).more hb.size)
            have hB := Nat.le_trans hB hb.size
            have hBr := Nat.le_trans hBr hb.size
            have hS : (∀ i, (x3.alloc (.cells #[.slice none 0 0] 38)).cell? ⟨w2.heap.size, i, none⟩ = (#[.slice A2 rn c2] : Array Value)[i]?) ∧ True ∧ True := ⟨HA.out.1, trivial, trivial⟩
            have hgl : x3.heap.size < (x3.alloc (.cells #[.slice none 0 0] 38)).heap.size := hg.2.2
            have HG := Lib.hid hg
            clear hg hb
            revert HA HRr HVv HWw hbw HP1 HP2 HQ hB hBr hS hgl HG
            generalize (x3.alloc (.cells #[.slice none 0 0] 38)) = x4
            intro HA HRr HVv HWw hbw HP1 HP2 HQ hB hBr hS hgl HG
            refine hK _ _ hS ?_
            clear hK K
            try simp only [Act.put, List.setIfInBounds_toArray, List.set_cons_zero, List.set_cons_succ]
            obtain ⟨q9, z9, l9⟩ := HG.out
            refine rgs_c 12 (by kernel_rfl) rfl (by rfl) (fun K hK => ?_)
            go_simp
            have hg1 := one_set (one_refl x4 x3.heap.size) 0 (.slice A8 rn c8)
            have hBw : Below wr.heap.size x4 (x4.setCell ⟨x3.heap.size, 0, none⟩ (.slice A8 rn c8)) := (Below.refl _ _).setCell (by show wr.heap.size ≤ x3.heap.size; exact hgr) _
            have hBa : Below w2.heap.size x4 (x4.setCell ⟨x3.heap.size, 0, none⟩ (.slice A8 rn c8)) := (Below.refl _ _).setCell (by show w2.heap.size ≤ x3.heap.size; omega) _
            have HA := Lib.hid (HA.out.grown hg1 (by omega))
            have HRr := Lib.hid (HRr.out.below hBa (Nat.le_refl _))
            have HVv := Lib.hid (HVv.out.below hBa (Nat.le_refl _))
            have HWw := Lib.hid (HWw.out.below hBw (Nat.le_refl _))
            have HQ := Lib.hid ((HQ.out.off_row hg1 (Nat.le_refl _) (fun b off hA h => hne b off hA (by injection h))).more hg1.size)
            have HG := Lib.hid (HG.out.set (k := 0) (v := (.slice A8 rn c8)) (cs' := #[(.slice A8 rn c8)]) (by decide) rfl)
            have hbw := hbw.setCell (p := ⟨x3.heap.size, 0, none⟩) (by show w.heap.size ≤ x3.heap.size; omega) (.slice A8 rn c8)
            have hB := Nat.le_trans hB hg1.size
            have hBr := Nat.le_trans hBr hg1.size
            have hS : (∀ i, (x4.setCell ⟨x3.heap.size, 0, none⟩ (.slice A8 rn c8)).cell? ⟨w2.heap.size, i, none⟩ = (#[.slice A2 rn c2] : Array Value)[i]?) ∧ True ∧ True := ⟨HA.out.1, trivial, trivial⟩
            refine hK _ _ hS ?_
            clear hK K
            try simp only [Act.put, List.setIfInBounds_toArray, List.set_cons_zero, List.set_cons_succ]
            clear q9 z9 l9
            refine rgs_d (by kernel_rfl) ?_
            go_wp2_with fail
            refine (awake_any _).mono ?_
            rintro e y1 ⟨rfl, hb⟩
            have HA := Lib.hid (HA.out.below hb)
            have HG := Lib.hid (HG.out.below hb)
            have HRr := Lib.hid (HRr.out.below hb hB)
            have HVv := Lib.hid (HVv.out.below hb hB)
            have HWw := Lib.hid (HWw.out.below hb hBr)
            have HQ := Lib.hid ((HQ.out.below hb (Nat.le_refl _)).more hb.size)
            have hbw := ext_trans hbw hb
            have hB := Nat.le_trans hB hb.size
            have hBr := Nat.le_trans hBr hb.size
            obtain ⟨q1, z1, l1⟩ := HA.out
            clear hb
            go_wp2_with fail
            refine (HS3.out _ _ _ (HRr.out.more hB)).mono ?_
            intro e y2 h
            obtain ⟨A9, c9, rfl, hp, hb⟩ := h.open_ n3 HN3.out
            have HA := Lib.hid (HA.out.below hb)
            have HG := Lib.hid (HG.out.below hb)
            have HRr := Lib.hid (HRr.out.below hb hB)
            have HVv := Lib.hid (HVv.out.below hb hB)
            have HWw := Lib.hid (HWw.out.below hb hBr)
            have HQ := Lib.hid ((HQ.out.below hb (Nat.le_refl _)).more hb.size)
            have hbw := ext_trans hbw hb
            have hB := Nat.le_trans hB hb.size
            have hBr := Nat.le_trans hBr hb.size
            have HP := Lib.hid hp
            clear hp h hb q1 z1 l1
            go_wp2_with fail
            refine (HIb.out _ _ _ _ _ _ _ HP.out HWw.out).mono ?_
            rintro e y3 ⟨rfl, hb⟩
            have HA := Lib.hid (HA.out.below hb)
            have HG := Lib.hid (HG.out.below hb)
            have HRr := Lib.hid (HRr.out.below hb hB)
            have HVv := Lib.hid (HVv.out.below hb hB)
            have HWw := Lib.hid (HWw.out.below hb hBr)
            have HQ := Lib.hid ((HQ.out.below hb (Nat.le_refl _)).more hb.size)
            have hbw := ext_trans hbw hb
            have hB := Nat.le_trans hB hb.size
            have hBr := Nat.le_trans hBr hb.size
            obtain ⟨q1, z1, l1⟩ := HG.out
            clear hb
            go_wp2_with fail
            refine (HIa.out _ _ _ _ _ _ _ HQ.out HVv.out).mono ?_
            rintro e y4 ⟨rfl, hb⟩
            clear q1 z1 l1
            have HA := Lib.hid (HA.out.below hb)
            have HG := Lib.hid (HG.out.below hb)
            have HRr := Lib.hid (HRr.out.below hb hB)
            have HVv := Lib.hid (HVv.out.below hb hB)
            have HWw := Lib.hid (HWw.out.below hb hBr)
            have HQ := Lib.hid ((HQ.out.below hb (Nat.le_refl _)).more hb.size)
            have hbw := ext_trans hbw hb
            have hB := Nat.le_trans hB hb.size
            have hBr := Nat.le_trans hBr hb.size
            obtain ⟨q1, z1, l1⟩ := HG.out
            obtain ⟨q2, z2, l2⟩ := HA.out
            clear hb
            go_wp2_with fail
            refine (HEaa.out _ _ _ _ _ HQ.out (HRr.out.more hB)).mono ?_
            rintro e y5 ⟨rfl, hb⟩
            go_wp2
            go_ret
            exact ⟨rfl, ext_trans hbw hb⟩
          · go_simp
            have hb : Below x2.heap.size x2 (x2.alloc (.cells #[.slice none 0 0] 38)) := (Below.refl _ _).alloc (Nat.le_refl _) _
            have hg : Box (x2.alloc (.cells #[.slice none 0 0] 38)) x2.heap.size #[.slice none 0 0] := Box.alloc_
            have hgr : x2.heap.size ≥ wr.heap.size := hBr
            have HA := Lib.hid (HA.out.below hb)
            have HRr := Lib.hid (HRr.out.below hb hB)
            have HVv := Lib.hid (HVv.out.below hb hB)
            have HWw := Lib.hid (HWw.out.below hb hBr)
            have hbw := ext_trans hbw hb
            have HP1 := Lib.hid ((HP1.out.below hb (Nat.le_refl _)).more hb.size)
            have HP2 := Lib.hid ((HP2.out.below hb (Nat.le_refl _)).more hb.size)
            have hB := Nat.le_trans hB hb.size
            have hBr := Nat.le_trans hBr hb.size
            have hS : (∀ i, (x2.alloc (.cells #[.slice none 0 0] 38)).cell? ⟨w2.heap.size, i, none⟩ = (#[.slice A2 rn c2] : Array Value)[i]?) ∧ True ∧ True := ⟨HA.out.1, trivial, trivial⟩
            have hgl : x2.heap.size < (x2.alloc (.cells #[.slice none 0 0] 38)).heap.size := hg.2.2
            have HG := Lib.hid hg
            clear hg hb
            revert HA HRr HVv HWw hbw HP1 HP2 hB hBr hS hgl HG
            generalize (x2.alloc (.cells #[.slice none 0 0] 38)) = x5
            intro HA HRr HVv HWw hbw HP1 HP2 hB hBr hS hgl HG
            refine hK _ _ hS ?_
            clear hK K
            try simp only [Act.put, List.setIfInBounds_toArray, List.set_cons_zero, List.set_cons_succ]
            refine rgs_c 10 (by kernel_rfl) rfl (by rfl) (fun K hK => ?_)
            go_simp
            refine (HAP.out _ _ _ _ _ HP1.out HP2.out).mono ?_
            intro e x6 h
            obtain ⟨A8, c8, rfl, hp, hb, hq⟩ := h.open_ rn HRN.out
            clear h
            have hne : ∀ b off, A8 = some ⟨b, off, none⟩ → b ≠ x2.heap.size := fun b off hA e => absurd (hq b off hA).1 (by have := hgl; omega)
            have HA := Lib.hid (HA.out.below hb)
            have HRr := Lib.hid (HRr.out.below hb hB)
            have HVv := Lib.hid (HVv.out.below hb hB)
            have HWw := Lib.hid (HWw.out.below hb hBr)
            have hbw := ext_trans hbw hb
            have HP1 := Lib.hid ((HP1.out.below hb (Nat.le_refl _)).more hb.size)
            have HP2 := Lib.hid ((HP2.out.below hb (Nat.le_refl _)).more hb.size)
            have hgl : x2.heap.size < _ := Nat.lt_of_lt_of_le hgl hb.size
            have HG := Lib.hid (HG.out.below hb)
            have hB := Nat.le_trans hB hb.size
            have hBr := Nat.le_trans hBr hb.size
            have hS : (∀ i, x6.cell? ⟨w2.heap.size, i, none⟩ = (#[.slice A2 rn c2] : Array Value)[i]?) ∧ True ∧ True := ⟨HA.out.1, trivial, trivial⟩
            have HQ := Lib.hid hp
            clear hp hq hb
            refine hK _ _ hS ?_
            clear hK K
            try simp only [Act.put, List.setIfInBounds_toArray, List.set_cons_zero, List.set_cons_succ]
            obtain ⟨q9, z9, l9⟩ := HG.out
            refine rgs_c 12 (by kernel_rfl) rfl (by rfl) (fun K hK => ?_)
            go_simp
            have hg1 := one_set (one_refl x6 x2.heap.size) 0 (.slice A8 rn c8)
            have hBw : Below wr.heap.size x6 (x6.setCell ⟨x2.heap.size, 0, none⟩ (.slice A8 rn c8)) := (Below.refl _ _).setCell (by show wr.heap.size ≤ x2.heap.size; exact hgr) _
            have hBa : Below w2.heap.size x6 (x6.setCell ⟨x2.heap.size, 0, none⟩ (.slice A8 rn c8)) := (Below.refl _ _).setCell (by show w2.heap.size ≤ x2.heap.size; omega) _
            have HA := Lib.hid (HA.out.grown hg1 (by omega))
            have HRr := Lib.hid (HRr.out.below hBa (Nat.le_refl _))
            have HVv := Lib.hid (HVv.out.below hBa (Nat.le_refl _))
            have HWw := Lib.hid (HWw.out.below hBw (Nat.le_refl _))
            have HQ := Lib.hid ((HQ.out.off_row hg1 (Nat.le_refl _) (fun b off hA h => hne b off hA (by injection h))).more hg1.size)
            have HG := Lib.hid (HG.out.set (k := 0) (v := (.slice A8 rn c8)) (cs' := #[(.slice A8 rn c8)]) (by decide) rfl)
            have hbw := hbw.setCell (p := ⟨x2.heap.size, 0, none⟩) (by show w.heap.size ≤ x2.heap.size; omega) (.slice A8 rn c8)
            have hB := Nat.le_trans hB hg1.size
            have hBr := Nat.le_trans hBr hg1.size
            have hS : (∀ i, (x6.setCell ⟨x2.heap.size, 0, none⟩ (.slice A8 rn c8)).cell? ⟨w2.heap.size, i, none⟩ = (#[.slice A2 rn c2] : Array Value)[i]?) ∧ True ∧ True := ⟨HA.out.1, trivial, trivial⟩
            refine hK _ _ hS ?_
            clear hK K
            try simp only [Act.put, List.setIfInBounds_toArray, List.set_cons_zero, List.set_cons_succ]
            clear q9 z9 l9
            refine rgs_d (by kernel_rfl) ?_
            go_wp2_with fail
            refine (awake_any _).mono ?_
            rintro e y1 ⟨rfl, hb⟩
            have HA := Lib.hid (HA.out.below hb)
            have HG := Lib.hid (HG.out.below hb)
            have HRr := Lib.hid (HRr.out.below hb hB)
            have HVv := Lib.hid (HVv.out.below hb hB)
            have HWw := Lib.hid (HWw.out.below hb hBr)
            have HQ := Lib.hid ((HQ.out.below hb (Nat.le_refl _)).more hb.size)
            have hbw := ext_trans hbw hb
            have hB := Nat.le_trans hB hb.size
            have hBr := Nat.le_trans hBr hb.size
            obtain ⟨q1, z1, l1⟩ := HA.out
            clear hb
            go_wp2_with fail
            refine (HS3.out _ _ _ (HRr.out.more hB)).mono ?_
            intro e y2 h
            obtain ⟨A9, c9, rfl, hp, hb⟩ := h.open_ n3 HN3.out
            have HA := Lib.hid (HA.out.below hb)
            have HG := Lib.hid (HG.out.below hb)
            have HRr := Lib.hid (HRr.out.below hb hB)
            have HVv := Lib.hid (HVv.out.below hb hB)
            have HWw := Lib.hid (HWw.out.below hb hBr)
            have HQ := Lib.hid ((HQ.out.below hb (Nat.le_refl _)).more hb.size)
            have hbw := ext_trans hbw hb
            have hB := Nat.le_trans hB hb.size
            have hBr := Nat.le_trans hBr hb.size
            have HP := Lib.hid hp
            clear hp h hb q1 z1 l1
            go_wp2_with fail
            refine (HIb.out _ _ _ _ _ _ _ HP.out HWw.out).mono ?_
            rintro e y3 ⟨rfl, hb⟩
            have HA := Lib.hid (HA.out.below hb)
            have HG := Lib.hid (HG.out.below hb)
            have HRr := Lib.hid (HRr.out.below hb hB)
            have HVv := Lib.hid (HVv.out.below hb hB)
            have HWw := Lib.hid (HWw.out.below hb hBr)
            have HQ := Lib.hid ((HQ.out.below hb (Nat.le_refl _)).more hb.size)
            have hbw := ext_trans hbw hb
            have hB := Nat.le_trans hB hb.size
            have hBr := Nat.le_trans hBr hb.size
            obtain ⟨q1, z1, l1⟩ := HG.out
            clear hb
            go_wp2_with fail
            refine (HIa.out _ _ _ _ _ _ _ HQ.out HVv.out).mono ?_
            rintro e y4 ⟨rfl, hb⟩
            clear q1 z1 l1
            have HA := Lib.hid (HA.out.below hb)
            have HG := Lib.hid (HG.out.below hb)
            have HRr := Lib.hid (HRr.out.below hb hB)
            have HVv := Lib.hid (HVv.out.below hb hB)
            have HWw := Lib.hid (HWw.out.below hb hBr)
            have HQ := Lib.hid ((HQ.out.below hb (Nat.le_refl _)).more hb.size)
            have hbw := ext_trans hbw hb
            have hB := Nat.le_trans hB hb.size
            have hBr := Nat.le_trans hBr hb.size
            obtain ⟨q1, z1, l1⟩ := HG.out
            obtain ⟨q2, z2, l2⟩ := HA.out
            clear hb
            go_wp2_with fail
            refine (HEaa.out _ _ _ _ _ HQ.out (HRr.out.more hB)).mono ?_
            rintro e y5 ⟨rfl, hb⟩
            go_wp2
            go_ret
            exact ⟨rfl, ext_trans hbw hb⟩
        · go_simp
          have hb : Below x1.heap.size x1 (x1.alloc (.cells #[.slice none 0 0] 38)) := (Below.refl _ _).alloc (Nat.le_refl _) _
          have hg : Box (x1.alloc (.cells #[.slice none 0 0] 38)) x1.heap.size #[.slice none 0 0] := Box.alloc_
          have hgr : x1.heap.size ≥ wr.heap.size := hBr
          have HA := Lib.hid (HA.out.below hb)
          have HRr := Lib.hid (HRr.out.below hb hB)
          have HVv := Lib.hid (HVv.out.below hb hB)
          have HWw := Lib.hid (HWw.out.below hb hBr)
          have hbw := ext_trans hbw hb
          have HP1 := Lib.hid ((HP1.out.below hb (Nat.le_refl _)).more hb.size)
          have hB := Nat.le_trans hB hb.size
          have hBr := Nat.le_trans hBr hb.size
          have hS : (∀ i, (x1.alloc (.cells #[.slice none 0 0] 38)).cell? ⟨w2.heap.size, i, none⟩ = (#[.slice A2 rn c2] : Array Value)[i]?) ∧ True ∧ True := ⟨HA.out.1, trivial, trivial⟩
          have hgl : x1.heap.size < (x1.alloc (.cells #[.slice none 0 0] 38)).heap.size := hg.2.2
          have HG := Lib.hid hg
          clear hg hb
          revert HA HRr HVv HWw hbw HP1 hB hBr hS hgl HG
          generalize (x1.alloc (.cells #[.slice none 0 0] 38)) = x7
          intro HA HRr HVv HWw hbw HP1 hB hBr hS hgl HG
          refine hK _ _ hS ?_
          clear hK K
          try simp only [Act.put, List.setIfInBounds_toArray, List.set_cons_zero, List.set_cons_succ]
          refine rgs_c 9 (by kernel_rfl) rfl (by rfl) (fun K hK => ?_)
          go_simp
          refine (HS2.out _ _ _ _ (by first | rfl | exact IntWalk.i64_in _ ⟨by omega, by omega⟩) (HRr.out.more hB)).mono ?_
          intro e x8 h
          obtain ⟨A7, c7, rfl, hp, hb, hq⟩ := h.open_ n2 HN2.out
          clear h
          have HA := Lib.hid (HA.out.below hb)
          have HRr := Lib.hid (HRr.out.below hb hB)
          have HVv := Lib.hid (HVv.out.below hb hB)
          have HWw := Lib.hid (HWw.out.below hb hBr)
          have hbw := ext_trans hbw hb
          have HP1 := Lib.hid ((HP1.out.below hb (Nat.le_refl _)).more hb.size)
          have hgl : x1.heap.size < _ := Nat.lt_of_lt_of_le hgl hb.size
          have HG := Lib.hid (HG.out.below hb)
          have hB := Nat.le_trans hB hb.size
          have hBr := Nat.le_trans hBr hb.size
          have hS : (∀ i, x8.cell? ⟨w2.heap.size, i, none⟩ = (#[.slice A2 rn c2] : Array Value)[i]?) ∧ True ∧ True := ⟨HA.out.1, trivial, trivial⟩
          have HP2 := Lib.hid hp
          clear hp hq hb
          refine hK _ _ hS ?_
          clear hK K
          try simp only [Act.put, List.setIfInBounds_toArray, List.set_cons_zero, List.set_cons_succ]
          refine rgs_c 10 (by kernel_rfl) rfl (by rfl) (fun K hK => ?_)
          go_simp
          refine (HAP.out _ _ _ _ _ HP1.out HP2.out).mono ?_
          intro e x9 h
          obtain ⟨A8, c8, rfl, hp, hb, hq⟩ := h.open_ rn HRN.out
          clear h
          have hne : ∀ b off, A8 = some ⟨b, off, none⟩ → b ≠ x1.heap.size := fun b off hA e => absurd (hq b off hA).1 (by have := hgl; omega)
          have HA := Lib.hid (HA.out.below hb)
          have HRr := Lib.hid (HRr.out.below hb hB)
          have HVv := Lib.hid (HVv.out.below hb hB)
          have HWw := Lib.hid (HWw.out.below hb hBr)
          have hbw := ext_trans hbw hb
          have HP1 := Lib.hid ((HP1.out.below hb (Nat.le_refl _)).more hb.size)
          have HP2 := Lib.hid ((HP2.out.below hb (Nat.le_refl _)).more hb.size)
          have hgl : x1.heap.size < _ := Nat.lt_of_lt_of_le hgl hb.size
          have HG := Lib.hid (HG.out.below hb)
          have hB := Nat.le_trans hB hb.size
          have hBr := Nat.le_trans hBr hb.size
          have hS : (∀ i, x9.cell? ⟨w2.heap.size, i, none⟩ = (#[.slice A2 rn c2] : Array Value)[i]?) ∧ True ∧ True := ⟨HA.out.1, trivial, trivial⟩
          have HQ := Lib.hid hp
          clear hp hq hb
          refine hK _ _ hS ?_
          clear hK K
          try simp only [Act.put, List.setIfInBounds_toArray, List.set_cons_zero, List.set_cons_succ]
          obtain ⟨q9, z9, l9⟩ := HG.out
          refine rgs_c 12 (by kernel_rfl) rfl (by rfl) (fun K hK => ?_)
          go_simp
          have hg1 := one_set (one_refl x9 x1.heap.size) 0 (.slice A8 rn c8)
          have hBw : Below wr.heap.size x9 (x9.setCell ⟨x1.heap.size, 0, none⟩ (.slice A8 rn c8)) := (Below.refl _ _).setCell (by show wr.heap.size ≤ x1.heap.size; exact hgr) _
          have hBa : Below w2.heap.size x9 (x9.setCell ⟨x1.heap.size, 0, none⟩ (.slice A8 rn c8)) := (Below.refl _ _).setCell (by show w2.heap.size ≤ x1.heap.size; omega) _
          have HA := Lib.hid (HA.out.grown hg1 (by omega))
          have HRr := Lib.hid (HRr.out.below hBa (Nat.le_refl _))
          have HVv := Lib.hid (HVv.out.below hBa (Nat.le_refl _))
          have HWw := Lib.hid (HWw.out.below hBw (Nat.le_refl _))
          have HQ := Lib.hid ((HQ.out.off_row hg1 (Nat.le_refl _) (fun b off hA h => hne b off hA (by injection h))).more hg1.size)
          have HG := Lib.hid (HG.out.set (k := 0) (v := (.slice A8 rn c8)) (cs' := #[(.slice A8 rn c8)]) (by decide) rfl)
          have hbw := hbw.setCell (p := ⟨x1.heap.size, 0, none⟩) (by show w.heap.size ≤ x1.heap.size; omega) (.slice A8 rn c8)
          have hB := Nat.le_trans hB hg1.size
          have hBr := Nat.le_trans hBr hg1.size
          have hS : (∀ i, (x9.setCell ⟨x1.heap.size, 0, none⟩ (.slice A8 rn c8)).cell? ⟨w2.heap.size, i, none⟩ = (#[.slice A2 rn c2] : Array Value)[i]?) ∧ True ∧ True := ⟨HA.out.1, trivial, trivial⟩
          refine hK _ _ hS ?_
          clear hK K
          try simp only [Act.put, List.setIfInBounds_toArray, List.set_cons_zero, List.set_cons_succ]
          clear q9 z9 l9
          refine rgs_d (by kernel_rfl) ?_
          go_wp2_with fail
          refine (awake_any _).mono ?_
          rintro e y1 ⟨rfl, hb⟩
          have HA := Lib.hid (HA.out.below hb)
          have HG := Lib.hid (HG.out.below hb)
          have HRr := Lib.hid (HRr.out.below hb hB)
          have HVv := Lib.hid (HVv.out.below hb hB)
          have HWw := Lib.hid (HWw.out.below hb hBr)
          have HQ := Lib.hid ((HQ.out.below hb (Nat.le_refl _)).more hb.size)
          have hbw := ext_trans hbw hb
          have hB := Nat.le_trans hB hb.size
          have hBr := Nat.le_trans hBr hb.size
          obtain ⟨q1, z1, l1⟩ := HA.out
          clear hb
          go_wp2_with fail
          refine (HS3.out _ _ _ (HRr.out.more hB)).mono ?_
          intro e y2 h
          obtain ⟨A9, c9, rfl, hp, hb⟩ := h.open_ n3 HN3.out
          have HA := Lib.hid (HA.out.below hb)
          have HG := Lib.hid (HG.out.below hb)
          have HRr := Lib.hid (HRr.out.below hb hB)
          have HVv := Lib.hid (HVv.out.below hb hB)
          have HWw := Lib.hid (HWw.out.below hb hBr)
          have HQ := Lib.hid ((HQ.out.below hb (Nat.le_refl _)).more hb.size)
          have hbw := ext_trans hbw hb
          have hB := Nat.le_trans hB hb.size
          have hBr := Nat.le_trans hBr hb.size
          have HP := Lib.hid hp
          clear hp h hb q1 z1 l1
          go_wp2_with fail
          refine (HIb.out _ _ _ _ _ _ _ HP.out HWw.out).mono ?_
          rintro e y3 ⟨rfl, hb⟩
          have HA := Lib.hid (HA.out.below hb)
          have HG := Lib.hid (HG.out.below hb)
          have HRr := Lib.hid (HRr.out.below hb hB)
          have HVv := Lib.hid (HVv.out.below hb hB)
          have HWw := Lib.hid (HWw.out.below hb hBr)
          have HQ := Lib.hid ((HQ.out.below hb (Nat.le_refl _)).more hb.size)
          have hbw := ext_trans hbw hb
          have hB := Nat.le_trans hB hb.size
          have hBr := Nat.le_trans hBr hb.size
          obtain ⟨q1, z1, l1⟩ := HG.out
          clear hb
          go_wp2_with fail
          refine (HIa.out _ _ _ _ _ _ _ HQ.out HVv.out).mono ?_
          rintro e y4 ⟨rfl, hb⟩
          clear q1 z1 l1
          have HA := Lib.hid (HA.out.below hb)
          have HG := Lib.hid (HG.out.below hb)
          have HRr := Lib.hid (HRr.out.below hb hB)
          have HVv := Lib.hid (HVv.out.below hb hB)
          have HWw := Lib.hid (HWw.out.below hb hBr)
          have HQ := Lib.hid ((HQ.out.below hb (Nat.le_refl _)).more hb.size)
          have hbw := ext_trans hbw hb
          have hB := Nat.le_trans hB hb.size
          have hBr := Nat.le_trans hBr hb.size
          obtain ⟨q1, z1, l1⟩ := HG.out
          obtain ⟨q2, z2, l2⟩ := HA.out
          clear hb
          go_wp2_with fail
          refine (HEaa.out _ _ _ _ _ HQ.out (HRr.out.more hB)).mono ?_
          rintro e y5 ⟨rfl, hb⟩
          go_wp2
          go_ret
          exact ⟨rfl, ext_trans hbw hb⟩
      · go_simp
        rw [show (wr.alloc (.cells #[.slice none 0 0] 38)).drew = (wr.drew.alloc (.cells #[.slice none 0 0] 38)) from rfl]
        have hb : Below wr.drew.heap.size wr.drew (wr.drew.alloc (.cells #[.slice none 0 0] 38)) := (Below.refl _ _).alloc (Nat.le_refl _) _
        have hg : Box (wr.drew.alloc (.cells #[.slice none 0 0] 38)) wr.heap.size #[.slice none 0 0] := Box.alloc_
        have hgr : wr.heap.size ≥ wr.heap.size := hBr
        have HA := Lib.hid (HA.out.below hb)
        have HRr := Lib.hid (HRr.out.below hb hB)
        have HVv := Lib.hid (HVv.out.below hb hB)
        have HWw := Lib.hid (HWw.out.below hb hBr)
        have hbw := ext_trans hbw hb
        have hB := Nat.le_trans hB hb.size
        have hBr := Nat.le_trans hBr hb.size
        have hS : (∀ i, (wr.drew.alloc (.cells #[.slice none 0 0] 38)).cell? ⟨w2.heap.size, i, none⟩ = (#[.slice A2 rn c2] : Array Value)[i]?) ∧ True ∧ True := ⟨HA.out.1, trivial, trivial⟩
        have hgl : wr.heap.size < (wr.drew.alloc (.cells #[.slice none 0 0] 38)).heap.size := hg.2.2
        have HG := Lib.hid hg
        clear hg hb
        revert HA HRr HVv HWw hbw hB hBr hS hgl HG
        generalize (wr.drew.alloc (.cells #[.slice none 0 0] 38)) = x10
        intro HA HRr HVv HWw hbw hB hBr hS hgl HG
        refine hK _ _ hS ?_
        clear hK K
        try simp only [Act.put, List.setIfInBounds_toArray, List.set_cons_zero, List.set_cons_succ]
        refine rgs_c 2 (by kernel_rfl) rfl (by rfl) (fun K hK => ?_)
        go_simp
        refine (HS1.out _ _ _ (HRr.out.more hB)).mono ?_
        intro e x11 h
        obtain ⟨A6, c6, rfl, hp, hb, hq⟩ := h.open_ n1 HN1.out
        clear h
        have HA := Lib.hid (HA.out.below hb)
        have HRr := Lib.hid (HRr.out.below hb hB)
        have HVv := Lib.hid (HVv.out.below hb hB)
        have HWw := Lib.hid (HWw.out.below hb hBr)
        have hbw := ext_trans hbw hb
        have hgl : wr.heap.size < _ := Nat.lt_of_lt_of_le hgl hb.size
        have HG := Lib.hid (HG.out.below hb)
        have hB := Nat.le_trans hB hb.size
        have hBr := Nat.le_trans hBr hb.size
        have hS : (∀ i, x11.cell? ⟨w2.heap.size, i, none⟩ = (#[.slice A2 rn c2] : Array Value)[i]?) ∧ True ∧ True := ⟨HA.out.1, trivial, trivial⟩
        have HP1 := Lib.hid hp
        clear hp hq hb
        refine hK _ _ hS ?_
        clear hK K
        try simp only [Act.put, List.setIfInBounds_toArray, List.set_cons_zero, List.set_cons_succ]
        refine rgs_c 9 (by kernel_rfl) rfl (by rfl) (fun K hK => ?_)
        go_simp
        refine (HS2.out _ _ _ _ (by first | rfl | exact IntWalk.i64_in _ ⟨by omega, by omega⟩) (HRr.out.more hB)).mono ?_
        intro e x12 h
        obtain ⟨A7, c7, rfl, hp, hb, hq⟩ := h.open_ n2 HN2.out
        clear h
        have HA := Lib.hid (HA.out.below hb)
        have HRr := Lib.hid (HRr.out.below hb hB)
        have HVv := Lib.hid (HVv.out.below hb hB)
        have HWw := Lib.hid (HWw.out.below hb hBr)
        have hbw := ext_trans hbw hb
        have HP1 := Lib.hid ((HP1.out.below hb (Nat.le_refl _)).more hb.size)
        have hgl : wr.heap.size < _ := Nat.lt_of_lt_of_le hgl hb.size
        have HG := Lib.hid (HG.out.below hb)
        have hB := Nat.le_trans hB hb.size
        have hBr := Nat.le_trans hBr hb.size
        have hS : (∀ i, x12.cell? ⟨w2.heap.size, i, none⟩ = (#[.slice A2 rn c2] : Array Value)[i]?) ∧ True ∧ True := ⟨HA.out.1, trivial, trivial⟩
        have HP2 := Lib.hid hp
        clear hp hq hb
        refine hK _ _ hS ?_
        clear hK K
        try simp only [Act.put, List.setIfInBounds_toArray, List.set_cons_zero, List.set_cons_succ]
        refine rgs_c 10 (by kernel_rfl) rfl (by rfl) (fun K hK => ?_)
        go_simp
        refine (HAP.out _ _ _ _ _ HP1.out HP2.out).mono ?_
        intro e x13 h
        obtain ⟨A8, c8, rfl, hp, hb, hq⟩ := h.open_ rn HRN.out
        clear h
        have hne : ∀ b off, A8 = some ⟨b, off, none⟩ → b ≠ wr.heap.size := fun b off hA e => absurd (hq b off hA).1 (by have := hgl; omega)
        have HA := Lib.hid (HA.out.below hb)
        have HRr := Lib.hid (HRr.out.below hb hB)
        have HVv := Lib.hid (HVv.out.below hb hB)
        have HWw := Lib.hid (HWw.out.below hb hBr)
        have hbw := ext_trans hbw hb
        have HP1 := Lib.hid ((HP1.out.below hb (Nat.le_refl _)).more hb.size)
        have HP2 := Lib.hid ((HP2.out.below hb (Nat.le_refl _)).more hb.size)
        have hgl : wr.heap.size < _ := Nat.lt_of_lt_of_le hgl hb.size
        have HG := Lib.hid (HG.out.below hb)
        have hB := Nat.le_trans hB hb.size
        have hBr := Nat.le_trans hBr hb.size
        have hS : (∀ i, x13.cell? ⟨w2.heap.size, i, none⟩ = (#[.slice A2 rn c2] : Array Value)[i]?) ∧ True ∧ True := ⟨HA.out.1, trivial, trivial⟩
        have HQ := Lib.hid hp
        clear hp hq hb
        refine hK _ _ hS ?_
        clear hK K
        try simp only [Act.put, List.setIfInBounds_toArray, List.set_cons_zero, List.set_cons_succ]
        obtain ⟨q9, z9, l9⟩ := HG.out
        refine rgs_c 12 (by kernel_rfl) rfl (by rfl) (fun K hK => ?_)
        go_simp
        have hg1 := one_set (one_refl x13 wr.heap.size) 0 (.slice A8 rn c8)
        have hBw : Below wr.heap.size x13 (x13.setCell ⟨wr.heap.size, 0, none⟩ (.slice A8 rn c8)) := (Below.refl _ _).setCell (by show wr.heap.size ≤ wr.heap.size; exact hgr) _
        have hBa : Below w2.heap.size x13 (x13.setCell ⟨wr.heap.size, 0, none⟩ (.slice A8 rn c8)) := (Below.refl _ _).setCell (by show w2.heap.size ≤ wr.heap.size; omega) _
        have HA := Lib.hid (HA.out.grown hg1 (by omega))
        have HRr := Lib.hid (HRr.out.below hBa (Nat.le_refl _))
        have HVv := Lib.hid (HVv.out.below hBa (Nat.le_refl _))
        have HWw := Lib.hid (HWw.out.below hBw (Nat.le_refl _))
        have HQ := Lib.hid ((HQ.out.off_row hg1 (Nat.le_refl _) (fun b off hA h => hne b off hA (by injection h))).more hg1.size)
        have HG := Lib.hid (HG.out.set (k := 0) (v := (.slice A8 rn c8)) (cs' := #[(.slice A8 rn c8)]) (by decide) rfl)
        have hbw := hbw.setCell (p := ⟨wr.heap.size, 0, none⟩) (by show w.heap.size ≤ wr.heap.size; omega) (.slice A8 rn c8)
        have hB := Nat.le_trans hB hg1.size
        have hBr := Nat.le_trans hBr hg1.size
        have hS : (∀ i, (x13.setCell ⟨wr.heap.size, 0, none⟩ (.slice A8 rn c8)).cell? ⟨w2.heap.size, i, none⟩ = (#[.slice A2 rn c2] : Array Value)[i]?) ∧ True ∧ True := ⟨HA.out.1, trivial, trivial⟩
        refine hK _ _ hS ?_
        clear hK K
        try simp only [Act.put, List.setIfInBounds_toArray, List.set_cons_zero, List.set_cons_succ]
        clear q9 z9 l9
        refine rgs_d (by kernel_rfl) ?_
        go_wp2_with fail
        refine (awake_any _).mono ?_
        rintro e y1 ⟨rfl, hb⟩
        have HA := Lib.hid (HA.out.below hb)
        have HG := Lib.hid (HG.out.below hb)
        have HRr := Lib.hid (HRr.out.below hb hB)
        have HVv := Lib.hid (HVv.out.below hb hB)
        have HWw := Lib.hid (HWw.out.below hb hBr)
        have HQ := Lib.hid ((HQ.out.below hb (Nat.le_refl _)).more hb.size)
        have hbw := ext_trans hbw hb
        have hB := Nat.le_trans hB hb.size
        have hBr := Nat.le_trans hBr hb.size
        obtain ⟨q1, z1, l1⟩ := HA.out
        clear hb
        go_wp2_with fail
        refine (HS3.out _ _ _ (HRr.out.more hB)).mono ?_
        intro e y2 h
        obtain ⟨A9, c9, rfl, hp, hb⟩ := h.open_ n3 HN3.out
        have HA := Lib.hid (HA.out.below hb)
        have HG := Lib.hid (HG.out.below hb)
        have HRr := Lib.hid (HRr.out.below hb hB)
        have HVv := Lib.hid (HVv.out.below hb hB)
        have HWw := Lib.hid (HWw.out.below hb hBr)
        have HQ := Lib.hid ((HQ.out.below hb (Nat.le_refl _)).more hb.size)
        have hbw := ext_trans hbw hb
        have hB := Nat.le_trans hB hb.size
        have hBr := Nat.le_trans hBr hb.size
        have HP := Lib.hid hp
        clear hp h hb q1 z1 l1
        go_wp2_with fail
        refine (HIb.out _ _ _ _ _ _ _ HP.out HWw.out).mono ?_
        rintro e y3 ⟨rfl, hb⟩
        have HA := Lib.hid (HA.out.below hb)
        have HG := Lib.hid (HG.out.below hb)
        have HRr := Lib.hid (HRr.out.below hb hB)
        have HVv := Lib.hid (HVv.out.below hb hB)
        have HWw := Lib.hid (HWw.out.below hb hBr)
        have HQ := Lib.hid ((HQ.out.below hb (Nat.le_refl _)).more hb.size)
        have hbw := ext_trans hbw hb
        have hB := Nat.le_trans hB hb.size
        have hBr := Nat.le_trans hBr hb.size
        obtain ⟨q1, z1, l1⟩ := HG.out
        clear hb
        go_wp2_with fail
        refine (HIa.out _ _ _ _ _ _ _ HQ.out HVv.out).mono ?_
        rintro e y4 ⟨rfl, hb⟩
        clear q1 z1 l1
        have HA := Lib.hid (HA.out.below hb)
        have HG := Lib.hid (HG.out.below hb)
        have HRr := Lib.hid (HRr.out.below hb hB)
        have HVv := Lib.hid (HVv.out.below hb hB)
        have HWw := Lib.hid (HWw.out.below hb hBr)
        have HQ := Lib.hid ((HQ.out.below hb (Nat.le_refl _)).more hb.size)
        have hbw := ext_trans hbw hb
        have hB := Nat.le_trans hB hb.size
        have hBr := Nat.le_trans hBr hb.size
        obtain ⟨q1, z1, l1⟩ := HG.out
        obtain ⟨q2, z2, l2⟩ := HA.out
        clear hb
        go_wp2_with fail
        refine (HEaa.out _ _ _ _ _ HQ.out (HRr.out.more hB)).mono ?_
        rintro e y5 ⟨rfl, hb⟩
        go_wp2
        go_ret
        exact ⟨rfl, ext_trans hbw hb⟩
theorem lawSliceI (l : List Int) (A : Option Addr) (c : Nat) (f k x : Int) (w : World) (hr : Rd w w.heap.size 1 A l.length (l.map fun x => [Value.int .i64 x]).flatten) (hlc : l.length ≤ c) (hc : c ≤ maxLen) (hf : (Lit.int .i64 f).wf = true) (hk : (Lit.int .i64 k).wf = true) :
    Calls Try.prog 9 #[.slice A l.length c, .int .i64 f, .int .i64 k, .int .i64 x] w fun e w' => e = .returned (.bool true) ∧ Below w.heap.size w w' :=
  lawSlice_any l A _ c f k x w (by rwa [flatten_one] at hr) (by omega) (wf_i64' hf).1 (wf_i64' hf).2 (wf_i64' hk).1 (wf_i64' hk).2
end Go.Proofs.Ytjbbkhoonenfjaa

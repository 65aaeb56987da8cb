/- Layer 10: the law RequestEncode. -/
import Derived.Test.YtiebgbdnbfahoaaReqM
import Derived.Test.YtiebgbdnbfahoaaLib3
set_option linter.unusedVariables false
set_option linter.unusedSimpArgs false
namespace Go.Proofs.Ytiebgbdnbfahoaa
open Go.RowKit

theorem enc_as (f a n c o : Int) (l : List Int) (m : Nat) (hv : vq f a n c o = true) (hl : encL f a n c o = l) (hm : l.length = m) (w : World) : Calls Try.prog 14 #[qv f a n c o] w fun e w' => ∃ A, e = .returned (.tuple #[.slice A m m, .int .i64 0]) ∧ Rd w' w'.heap.size 1 A m (by8 l) ∧ Below w.heap.size w w' := by
  subst hl; subst hm
  refine (enc_yes f a n c o hv w).mono ?_
  rintro e w' ⟨A, m, rfl, rfl, hR, hb⟩
  exact ⟨A, rfl, hR, hb⟩
theorem renc_as (f a n c o : Int) (l : List Int) (m : Nat) (hv : vq f a n c o = true) (hl : encL f a n c o = l) (hm : l.length = m) (w : World) : Calls Try.prog 15 #[qv f a n c o] w fun e w' => ∃ A, e = .returned (.tuple #[.slice A m m, .int .i64 0]) ∧ Rd w' w'.heap.size 1 A m (by8 l) ∧ Below w.heap.size w w' := by
  subst hl; subst hm
  refine (renc_yes f a n c o hv w).mono ?_
  rintro e w' ⟨A, m, rfl, rfl, hR, hb⟩
  exact ⟨A, rfl, hR, hb⟩
theorem encL_tab (f a n : Int) (h1 : 1 ≤ f) (h2 : f ≤ 4) : encL f a n 0 0 = [f, a / 256, a % 256, n / 256, n % 256] := by rw [encL, if_neg (by omega), if_neg (by omega)]


set_option maxRecDepth 100000 in
set_option maxHeartbeats 2000000 in
theorem lawEnc_raw (f a n c o k x y : Int) (w : World) : Calls Try.prog 4 #[qv f a n c o, .bool true, .int .i64 k, .int .i64 x, .int .i64 y] w fun e w' => e = .returned (.bool true) ∧ Below w.heap.size w w' := by
  obtain ⟨r, hv⟩ : ∃ r, vq f a n c o = r := ⟨_, rfl⟩
  cases r
  · have he := enc_no f a n c o hv
    have he2 := renc_no f a n c o hv
    have HE := Lib.hid he; have HE2 := Lib.hid he2; clear he he2 hv
    have hs0 : ∀ w, (convert 29 9 (.slice none 0 0)).run Try.prog w = .ok (.string (strOfNums [])) w := fun w => Rd.str (B := 0) Rd.nil_
    go_enter Try.func4, Try.ntmps4
    go_wp2_with fail
    refine (HE.out _).mono ?_
    rintro e w2 ⟨rfl, hb2⟩
    obtain ⟨q2, z2, l2⟩ := box_new hb2
    have hbw := ext_alloc' (Below.refl _ w) (by simpa using hb2)
    clear hb2
    go_wp2_with fail
    refine (HE2.out _).mono ?_
    rintro e w3 ⟨rfl, hb3⟩
    have hbx := ext_trans hbw hb3
    clear hb3 hbw
    go_wp2_with fail
    refine (awake_any _).mono ?_
    rintro e w4 ⟨rfl, hb4⟩
    go_wp2
    go_ret
    exact ⟨rfl, ext_trans hbx hb4⟩
  · rcases vq_cases hv with ⟨rfl, rfl, rfl, rfl, rfl⟩ | ⟨rfl, h1, h2, h3, h4, rfl, rfl⟩ | ⟨h1, h2, g1, g2, g3, g4, _, rfl, rfl⟩
    · have HV := Lib.hid hv; clear hv
      go_enter Try.func4, Try.ntmps4
      go_wp2_with fail
      refine (enc_as _ _ _ _ _ [17] 1 HV.out rfl rfl _).mono ?_
      rintro e w2 ⟨A1, rfl, hR1, hb2⟩
      obtain ⟨q2, z2, l2⟩ := box_new hb2
      have B2 := ext_alloc' (Below.refl _ w) (by simpa using hb2)
      clear hb2
      go_wp2_with fail
      refine (renc_as _ _ _ _ _ [17] 1 HV.out rfl rfl _).mono ?_
      rintro e w3 ⟨A2, rfl, hR2, hb3⟩
      obtain ⟨q3, z3, l3⟩ := box_keep q2 z2 l2 hb3
      have B3 := ext_trans B2 hb3
      have hR3 := hR1.below hb3 (Nat.le_refl _)
      have hs1 := hR3.str (c := 1)
      have hs2 := hR2.str (c := 1)
      obtain ⟨b, off, rfl, hB, hc⟩ := hR3.get8 (by omega)
      have hB3 : b < w3.heap.size := Nat.lt_of_lt_of_le hB hb3.size
      have d0 := hc 0 _ rfl
      simp only [Nat.add_zero] at d0
      clear hc hR1 hR2 hR3 hb3 q2 z2 l2 B2
      go_wp2_with fail
      refine (dec_srvY 0 _ _ _ _ hB3 rfl d0).mono ?_
      rintro e w4 ⟨rfl, hb4⟩
      obtain ⟨q4, z4, l4⟩ := box_keep q3 z3 l3 hb4
      have B4 := ext_trans B3 hb4
      clear hb4 q3 z3 l3 B3 hs1 hs2 d0
      go_wp2_with fail
      refine (awake_any _).mono ?_
      rintro e w5 ⟨rfl, hb5⟩
      obtain ⟨q6, z6, l6⟩ := box_new hb5
      obtain ⟨q7, z7, l7⟩ := box_keep (box_keep q4 z4 l4 ((Below.refl _ w4).alloc (Nat.le_refl _) _)).1 (box_keep q4 z4 l4 ((Below.refl _ w4).alloc (Nat.le_refl _) _)).2.1 (box_keep q4 z4 l4 ((Below.refl _ w4).alloc (Nat.le_refl _) _)).2.2 hb5
      have B5 := ext_alloc' B4 (by simpa using hb5)
      clear hb5 q4 z4 l4 B4
      go_wp2
      go_ret
      exact ⟨rfl, B5⟩
    · have HV := Lib.hid hv; clear hv
      go_enter Try.func4, Try.ntmps4
      go_wp2_with fail
      refine (enc_as _ _ _ _ _ [43, 14, c, o] 4 HV.out rfl rfl _).mono ?_
      rintro e w2 ⟨A1, rfl, hR1, hb2⟩
      obtain ⟨q2, z2, l2⟩ := box_new hb2
      have B2 := ext_alloc' (Below.refl _ w) (by simpa using hb2)
      clear hb2
      go_wp2_with fail
      refine (renc_as _ _ _ _ _ [43, 14, c, o] 4 HV.out rfl rfl _).mono ?_
      rintro e w3 ⟨A2, rfl, hR2, hb3⟩
      obtain ⟨q3, z3, l3⟩ := box_keep q2 z2 l2 hb3
      have B3 := ext_trans B2 hb3
      have hR3 := hR1.below hb3 (Nat.le_refl _)
      have hs1 := hR3.str (c := 4)
      have hs2 := hR2.str (c := 4)
      obtain ⟨b, off, rfl, hB, hc⟩ := hR3.get8 (by omega)
      have hB3 : b < w3.heap.size := Nat.lt_of_lt_of_le hB hb3.size
      have d0 := hc 0 _ rfl
      have d1 := hc 1 _ rfl
      have d2 := hc 2 _ rfl
      have d3 := hc 3 _ rfl
      simp only [Nat.add_zero] at d0
      clear hc hR1 hR2 hR3 hb3 q2 z2 l2 B2
      go_wp2_with fail
      refine (dec_devY _ _ _ _ _ _ hB3 HV.out ⟨by omega, by omega⟩ ⟨by omega, by omega⟩ d0 d1 d2 d3).mono ?_
      rintro e w4 ⟨rfl, hb4⟩
      obtain ⟨q4, z4, l4⟩ := box_keep q3 z3 l3 hb4
      have B4 := ext_trans B3 hb4
      clear hb4 q3 z3 l3 B3 hs1 hs2 d0 d1 d2 d3
      go_wp2_with fail
      refine (awake_any _).mono ?_
      rintro e w5 ⟨rfl, hb5⟩
      obtain ⟨q6, z6, l6⟩ := box_new hb5
      obtain ⟨q7, z7, l7⟩ := box_keep (box_keep q4 z4 l4 ((Below.refl _ w4).alloc (Nat.le_refl _) _)).1 (box_keep q4 z4 l4 ((Below.refl _ w4).alloc (Nat.le_refl _) _)).2.1 (box_keep q4 z4 l4 ((Below.refl _ w4).alloc (Nat.le_refl _) _)).2.2 hb5
      have B5 := ext_alloc' B4 (by simpa using hb5)
      clear hb5 q4 z4 l4 B4
      go_wp2
      go_ret
      exact ⟨rfl, B5⟩
    · have HV := Lib.hid hv; clear hv
      go_enter Try.func4, Try.ntmps4
      go_wp2_with fail
      refine (enc_as _ _ _ _ _ [f, a / 256, a % 256, n / 256, n % 256] 5 HV.out (encL_tab _ _ _ h1 h2) rfl _).mono ?_
      rintro e w2 ⟨A1, rfl, hR1, hb2⟩
      obtain ⟨q2, z2, l2⟩ := box_new hb2
      have B2 := ext_alloc' (Below.refl _ w) (by simpa using hb2)
      clear hb2
      go_wp2_with fail
      refine (renc_as _ _ _ _ _ [f, a / 256, a % 256, n / 256, n % 256] 5 HV.out (encL_tab _ _ _ h1 h2) rfl _).mono ?_
      rintro e w3 ⟨A2, rfl, hR2, hb3⟩
      obtain ⟨q3, z3, l3⟩ := box_keep q2 z2 l2 hb3
      have B3 := ext_trans B2 hb3
      have hR3 := hR1.below hb3 (Nat.le_refl _)
      have hs1 := hR3.str (c := 5)
      have hs2 := hR2.str (c := 5)
      obtain ⟨b, off, rfl, hB, hc⟩ := hR3.get8 (by omega)
      have hB3 : b < w3.heap.size := Nat.lt_of_lt_of_le hB hb3.size
      have d0 := hc 0 _ rfl
      have d1 := hc 1 _ rfl
      have d2 := hc 2 _ rfl
      have d3 := hc 3 _ rfl
      have d4 := hc 4 _ rfl
      simp only [Nat.add_zero] at d0
      clear hc hR1 hR2 hR3 hb3 q2 z2 l2 B2
      go_wp2_with fail
      refine (dec_tabY _ _ _ _ _ _ _ _ _ _ _ hB3 h1 h2 ⟨by omega, by omega⟩ ⟨by omega, by omega⟩ ⟨by omega, by omega⟩ ⟨by omega, by omega⟩ (by omega) (by omega) HV.out d0 d1 d2 d3 d4).mono ?_
      rintro e w4 ⟨rfl, hb4⟩
      obtain ⟨q4, z4, l4⟩ := box_keep q3 z3 l3 hb4
      have B4 := ext_trans B3 hb4
      clear hb4 q3 z3 l3 B3 hs1 hs2 d0 d1 d2 d3 d4
      go_wp2_with fail
      refine (awake_any _).mono ?_
      rintro e w5 ⟨rfl, hb5⟩
      obtain ⟨q6, z6, l6⟩ := box_new hb5
      obtain ⟨q7, z7, l7⟩ := box_keep (box_keep q4 z4 l4 ((Below.refl _ w4).alloc (Nat.le_refl _) _)).1 (box_keep q4 z4 l4 ((Below.refl _ w4).alloc (Nat.le_refl _) _)).2.1 (box_keep q4 z4 l4 ((Below.refl _ w4).alloc (Nat.le_refl _) _)).2.2 hb5
      have B5 := ext_alloc' B4 (by simpa using hb5)
      clear hb5 q4 z4 l4 B4
      go_wp2
      go_ret
      exact ⟨rfl, B5⟩

set_option maxRecDepth 100000 in
set_option maxHeartbeats 2000000 in
theorem lawEnc_mk (f a n c o k x y : Int) (w : World) : Calls Try.prog 4 #[qv f a n c o, .bool false, .int .i64 k, .int .i64 x, .int .i64 y] w fun e w' => e = .returned (.bool true) ∧ Below w.heap.size w w' := by
  go_enter Try.func4, Try.ntmps4
  go_wp2_with fail
  refine (make_any k x y _).mono ?_
  rintro e w0 ⟨f', a', n', c', o', rfl, hv, hb0⟩
  obtain ⟨p0, z0, l0⟩ := box_new hb0
  have hbw := ext_alloc' (Below.refl _ w) (by simpa using hb0)
  clear hb0
  rcases vq_cases hv with ⟨rfl, rfl, rfl, rfl, rfl⟩ | ⟨rfl, h1, h2, h3, h4, rfl, rfl⟩ | ⟨h1, h2, g1, g2, g3, g4, _, rfl, rfl⟩
  · have HV := Lib.hid hv; clear hv
    obtain ⟨qs0, zs0, ls0⟩ := box_set (k := 0) (.int .i64 17) p0 z0 l0 (by simp)
    obtain ⟨qs1, zs1, ls1⟩ := box_set (k := 1) (.int .i64 0) qs0 zs0 ls0 (by simp)
    obtain ⟨qs2, zs2, ls2⟩ := box_set (k := 2) (.int .i64 0) qs1 zs1 ls1 (by simp)
    obtain ⟨qs3, zs3, ls3⟩ := box_set (k := 3) (.int .i64 0) qs2 zs2 ls2 (by simp)
    obtain ⟨qs4, zs4, ls4⟩ := box_set (k := 4) (.int .i64 0) qs3 zs3 ls3 (by simp)
    have hbs := ((((hbw.setCell (p := ⟨w.heap.size, 0, none⟩) (Nat.le_refl _) (.int .i64 17)).setCell (p := ⟨w.heap.size, 1, none⟩) (Nat.le_refl _) (.int .i64 0)).setCell (p := ⟨w.heap.size, 2, none⟩) (Nat.le_refl _) (.int .i64 0)).setCell (p := ⟨w.heap.size, 3, none⟩) (Nat.le_refl _) (.int .i64 0)).setCell (p := ⟨w.heap.size, 4, none⟩) (Nat.le_refl _) (.int .i64 0)
    go_wp2_with fail
    refine (enc_as _ _ _ _ _ [17] 1 HV.out rfl rfl _).mono ?_
    rintro e w2 ⟨A1, rfl, hR1, hb2⟩
    obtain ⟨q2, z2, l2⟩ := box_keep qs4 zs4 ls4 hb2
    have B2 := ext_trans hbs hb2
    clear hb2
    go_wp2_with fail
    refine (renc_as _ _ _ _ _ [17] 1 HV.out rfl rfl _).mono ?_
    rintro e w3 ⟨A2, rfl, hR2, hb3⟩
    obtain ⟨q3, z3, l3⟩ := box_keep q2 z2 l2 hb3
    have B3 := ext_trans B2 hb3
    have hR3 := hR1.below hb3 (Nat.le_refl _)
    have hs1 := hR3.str (c := 1)
    have hs2 := hR2.str (c := 1)
    obtain ⟨b, off, rfl, hB, hc⟩ := hR3.get8 (by omega)
    have hB3 : b < w3.heap.size := Nat.lt_of_lt_of_le hB hb3.size
    have d0 := hc 0 _ rfl
    simp only [Nat.add_zero] at d0
    clear hc hR1 hR2 hR3 hb3 q2 z2 l2 B2
    go_wp2_with fail
    refine (dec_srvY 0 _ _ _ _ hB3 rfl d0).mono ?_
    rintro e w4 ⟨rfl, hb4⟩
    obtain ⟨q4, z4, l4⟩ := box_keep q3 z3 l3 hb4
    have B4 := ext_trans B3 hb4
    clear hb4 q3 z3 l3 B3 hs1 hs2 d0
    go_wp2_with fail
    refine (awake_any _).mono ?_
    rintro e w5 ⟨rfl, hb5⟩
    obtain ⟨q6, z6, l6⟩ := box_new hb5
    obtain ⟨q7, z7, l7⟩ := box_keep (box_keep q4 z4 l4 ((Below.refl _ w4).alloc (Nat.le_refl _) _)).1 (box_keep q4 z4 l4 ((Below.refl _ w4).alloc (Nat.le_refl _) _)).2.1 (box_keep q4 z4 l4 ((Below.refl _ w4).alloc (Nat.le_refl _) _)).2.2 hb5
    have B5 := ext_alloc' B4 (by simpa using hb5)
    clear hb5 q4 z4 l4 B4
    go_wp2
    go_ret
    exact ⟨rfl, B5⟩
  · have HV := Lib.hid hv; clear hv
    obtain ⟨qs0, zs0, ls0⟩ := box_set (k := 0) (.int .i64 43) p0 z0 l0 (by simp)
    obtain ⟨qs1, zs1, ls1⟩ := box_set (k := 1) (.int .i64 0) qs0 zs0 ls0 (by simp)
    obtain ⟨qs2, zs2, ls2⟩ := box_set (k := 2) (.int .i64 0) qs1 zs1 ls1 (by simp)
    obtain ⟨qs3, zs3, ls3⟩ := box_set (k := 3) (.int .i64 c') qs2 zs2 ls2 (by simp)
    obtain ⟨qs4, zs4, ls4⟩ := box_set (k := 4) (.int .i64 o') qs3 zs3 ls3 (by simp)
    have hbs := ((((hbw.setCell (p := ⟨w.heap.size, 0, none⟩) (Nat.le_refl _) (.int .i64 43)).setCell (p := ⟨w.heap.size, 1, none⟩) (Nat.le_refl _) (.int .i64 0)).setCell (p := ⟨w.heap.size, 2, none⟩) (Nat.le_refl _) (.int .i64 0)).setCell (p := ⟨w.heap.size, 3, none⟩) (Nat.le_refl _) (.int .i64 c')).setCell (p := ⟨w.heap.size, 4, none⟩) (Nat.le_refl _) (.int .i64 o')
    go_wp2_with fail
    refine (enc_as _ _ _ _ _ [43, 14, c', o'] 4 HV.out rfl rfl _).mono ?_
    rintro e w2 ⟨A1, rfl, hR1, hb2⟩
    obtain ⟨q2, z2, l2⟩ := box_keep qs4 zs4 ls4 hb2
    have B2 := ext_trans hbs hb2
    clear hb2
    go_wp2_with fail
    refine (renc_as _ _ _ _ _ [43, 14, c', o'] 4 HV.out rfl rfl _).mono ?_
    rintro e w3 ⟨A2, rfl, hR2, hb3⟩
    obtain ⟨q3, z3, l3⟩ := box_keep q2 z2 l2 hb3
    have B3 := ext_trans B2 hb3
    have hR3 := hR1.below hb3 (Nat.le_refl _)
    have hs1 := hR3.str (c := 4)
    have hs2 := hR2.str (c := 4)
    obtain ⟨b, off, rfl, hB, hc⟩ := hR3.get8 (by omega)
    have hB3 : b < w3.heap.size := Nat.lt_of_lt_of_le hB hb3.size
    have d0 := hc 0 _ rfl
    have d1 := hc 1 _ rfl
    have d2 := hc 2 _ rfl
    have d3 := hc 3 _ rfl
    simp only [Nat.add_zero] at d0
    clear hc hR1 hR2 hR3 hb3 q2 z2 l2 B2
    go_wp2_with fail
    refine (dec_devY _ _ _ _ _ _ hB3 HV.out ⟨by omega, by omega⟩ ⟨by omega, by omega⟩ d0 d1 d2 d3).mono ?_
    rintro e w4 ⟨rfl, hb4⟩
    obtain ⟨q4, z4, l4⟩ := box_keep q3 z3 l3 hb4
    have B4 := ext_trans B3 hb4
    clear hb4 q3 z3 l3 B3 hs1 hs2 d0 d1 d2 d3
    go_wp2_with fail
    refine (awake_any _).mono ?_
    rintro e w5 ⟨rfl, hb5⟩
    obtain ⟨q6, z6, l6⟩ := box_new hb5
    obtain ⟨q7, z7, l7⟩ := box_keep (box_keep q4 z4 l4 ((Below.refl _ w4).alloc (Nat.le_refl _) _)).1 (box_keep q4 z4 l4 ((Below.refl _ w4).alloc (Nat.le_refl _) _)).2.1 (box_keep q4 z4 l4 ((Below.refl _ w4).alloc (Nat.le_refl _) _)).2.2 hb5
    have B5 := ext_alloc' B4 (by simpa using hb5)
    clear hb5 q4 z4 l4 B4
    go_wp2
    go_ret
    exact ⟨rfl, B5⟩
  · have HV := Lib.hid hv; clear hv
    obtain ⟨qs0, zs0, ls0⟩ := box_set (k := 0) (.int .i64 f') p0 z0 l0 (by simp)
    obtain ⟨qs1, zs1, ls1⟩ := box_set (k := 1) (.int .i64 a') qs0 zs0 ls0 (by simp)
    obtain ⟨qs2, zs2, ls2⟩ := box_set (k := 2) (.int .i64 n') qs1 zs1 ls1 (by simp)
    obtain ⟨qs3, zs3, ls3⟩ := box_set (k := 3) (.int .i64 0) qs2 zs2 ls2 (by simp)
    obtain ⟨qs4, zs4, ls4⟩ := box_set (k := 4) (.int .i64 0) qs3 zs3 ls3 (by simp)
    have hbs := ((((hbw.setCell (p := ⟨w.heap.size, 0, none⟩) (Nat.le_refl _) (.int .i64 f')).setCell (p := ⟨w.heap.size, 1, none⟩) (Nat.le_refl _) (.int .i64 a')).setCell (p := ⟨w.heap.size, 2, none⟩) (Nat.le_refl _) (.int .i64 n')).setCell (p := ⟨w.heap.size, 3, none⟩) (Nat.le_refl _) (.int .i64 0)).setCell (p := ⟨w.heap.size, 4, none⟩) (Nat.le_refl _) (.int .i64 0)
    go_wp2_with fail
    refine (enc_as _ _ _ _ _ [f', a' / 256, a' % 256, n' / 256, n' % 256] 5 HV.out (encL_tab _ _ _ h1 h2) rfl _).mono ?_
    rintro e w2 ⟨A1, rfl, hR1, hb2⟩
    obtain ⟨q2, z2, l2⟩ := box_keep qs4 zs4 ls4 hb2
    have B2 := ext_trans hbs hb2
    clear hb2
    go_wp2_with fail
    refine (renc_as _ _ _ _ _ [f', a' / 256, a' % 256, n' / 256, n' % 256] 5 HV.out (encL_tab _ _ _ h1 h2) rfl _).mono ?_
    rintro e w3 ⟨A2, rfl, hR2, hb3⟩
    obtain ⟨q3, z3, l3⟩ := box_keep q2 z2 l2 hb3
    have B3 := ext_trans B2 hb3
    have hR3 := hR1.below hb3 (Nat.le_refl _)
    have hs1 := hR3.str (c := 5)
    have hs2 := hR2.str (c := 5)
    obtain ⟨b, off, rfl, hB, hc⟩ := hR3.get8 (by omega)
    have hB3 : b < w3.heap.size := Nat.lt_of_lt_of_le hB hb3.size
    have d0 := hc 0 _ rfl
    have d1 := hc 1 _ rfl
    have d2 := hc 2 _ rfl
    have d3 := hc 3 _ rfl
    have d4 := hc 4 _ rfl
    simp only [Nat.add_zero] at d0
    clear hc hR1 hR2 hR3 hb3 q2 z2 l2 B2
    go_wp2_with fail
    refine (dec_tabY _ _ _ _ _ _ _ _ _ _ _ hB3 h1 h2 ⟨by omega, by omega⟩ ⟨by omega, by omega⟩ ⟨by omega, by omega⟩ ⟨by omega, by omega⟩ (by omega) (by omega) HV.out d0 d1 d2 d3 d4).mono ?_
    rintro e w4 ⟨rfl, hb4⟩
    obtain ⟨q4, z4, l4⟩ := box_keep q3 z3 l3 hb4
    have B4 := ext_trans B3 hb4
    clear hb4 q3 z3 l3 B3 hs1 hs2 d0 d1 d2 d3 d4
    go_wp2_with fail
    refine (awake_any _).mono ?_
    rintro e w5 ⟨rfl, hb5⟩
    obtain ⟨q6, z6, l6⟩ := box_new hb5
    obtain ⟨q7, z7, l7⟩ := box_keep (box_keep q4 z4 l4 ((Below.refl _ w4).alloc (Nat.le_refl _) _)).1 (box_keep q4 z4 l4 ((Below.refl _ w4).alloc (Nat.le_refl _) _)).2.1 (box_keep q4 z4 l4 ((Below.refl _ w4).alloc (Nat.le_refl _) _)).2.2 hb5
    have B5 := ext_alloc' B4 (by simpa using hb5)
    clear hb5 q4 z4 l4 B4
    go_wp2
    go_ret
    exact ⟨rfl, B5⟩

theorem lawEnc_any (f a n c o : Int) (r : Bool) (k x y : Int) (w : World) : Calls Try.prog 4 #[qv f a n c o, .bool r, .int .i64 k, .int .i64 x, .int .i64 y] w fun e w' => e = .returned (.bool true) ∧ Below w.heap.size w w' := by
  cases r
  · exact lawEnc_mk f a n c o k x y w
  · exact lawEnc_raw f a n c o k x y w
end Go.Proofs.Ytiebgbdnbfahoaa
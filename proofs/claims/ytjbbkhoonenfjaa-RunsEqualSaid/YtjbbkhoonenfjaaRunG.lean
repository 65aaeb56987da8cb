/- RunsEqual. -/
import Derived.Test.YtjbbkhoonenfjaaRunE
import Derived.Test.YtjbbkhoonenfjaaRunB
set_option linter.unusedVariables false
set_option linter.unusedSimpArgs false
namespace Go.Proofs.Ytjbbkhoonenfjaa
open Go.RowKit

theorem wTo_one (vs : List Int) (a : Nat) (x : Int) (h : a < vs.length) : wTo vs a (a + 1) x vs.length = vs.set a x := by
  apply List.ext_getElem
  · simp [wTo]
  · intro i h1 h2
    have hi : i < vs.length := by simpa [wTo] using h1
    simp only [wTo, List.getElem_map, List.getElem_range, List.getElem_set]
    by_cases e : a = i
    · subst e
      rw [if_pos ⟨hi, Nat.le_refl _, Nat.lt_succ_self _⟩, if_pos rfl]
    · rw [if_neg (by omega), if_neg e]
      simp [List.getD, List.getElem?_eq_getElem hi]
theorem set_one (rs : List (Rn Int)) (vs : List Int) (a : Nat) (x : Int) (hmx : Mx rs) (he : expand rs = vs) (ha : a < vs.length) (hv : vs.length ≤ 65536) : Mx (setL rs a (a + 1) x) ∧ expand (setL rs a (a + 1) x) = vs.set a x := by
  have h := set_expand rs vs a (a + 1) x hmx he (by omega) (by omega) hv
  rw [wTo_one vs a x ha] at h
  exact h
theorem clip_one (a m : Nat) (h : a < m) : clipL (a : Int) 1 m = (a, a + 1) := by
  unfold clipL
  rw [if_neg (by omega), if_neg (by omega)]
  rw [if_neg (by omega)]
  exact Prod.ext (by show ((a : Int)).toNat = a; omega) (by show ((a : Int) + 1).toNat = a + 1; omega)
theorem set_same (vs : List Int) (a : Nat) (ha : a < vs.length) (x y : Int) (hy : vs.getD a 0 = y) : decide (vs.set a x = vs) = (y == x) := by
  have e : vs[a] = y := by rw [← hy]; simp [List.getD, List.getElem?_eq_getElem ha]
  by_cases h : y = x
  · subst h
    subst e
    simp [List.set_getElem_self]
  · have h1 : ¬ vs.set a x = vs := by
      intro h2
      have h3 : (vs.set a x)[a]'(by simpa using ha) = vs[a] := by simp only [h2]
      rw [List.getElem_set_self] at h3
      omega
    rw [decide_eq_false h1]
    symm
    simpa using h
theorem set_back (vs : List Int) (a : Nat) (ha : a < vs.length) (x y : Int) (hy : vs.getD a 0 = y) : (vs.set a x).set a y = vs := by
  have e : vs[a] = y := by rw [← hy]; simp [List.getD, List.getElem?_eq_getElem ha]
  subst e
  rw [List.set_set, List.set_getElem_self]
theorem runs_same {rs ss : List (Rn Int)} {vs ws : List Int} (h1 : Mx rs) (h2 : Mx ss) (e1 : expand rs = vs) (e2 : expand ss = ws) : decide (rs = ss) = decide (vs = ws) := by
  by_cases h : rs = ss
  · subst h
    rw [e1] at e2
    simp [e2]
  · have : ¬ vs = ws := by
      intro e
      exact h (Mx_unique rs ss none none h1 h2 (by rw [e1, e2, e]))
    simp [h, this]
theorem mx_length (rs : List (Rn Int)) (p : Option Int) (h : MxA p rs) : rs.length ≤ tot rs := by
  induction rs generalizing p with
  | nil => simp
  | cons r l ih =>
    obtain ⟨h1, h2, h3⟩ := h
    have := ih _ h3
    simp only [List.length_cons, tot]
    omega
theorem same_step (vs ws : List Int) (k : Nat) (h1 : k < vs.length) (h2 : k < ws.length) (h : vs.take k = ws.take k) : decide (vs.take (k + 1) = ws.take (k + 1)) = (vs.getD k 0 == ws.getD k 0) := by
  have e1 := List.take_succ_eq_append_getElem h1
  have e2 := List.take_succ_eq_append_getElem h2
  rw [h] at e1
  rw [e1, e2]
  clear e1 e2 h
  simp only [List.getD, List.getElem?_eq_getElem h1, List.getElem?_eq_getElem h2, Option.getD_some]
  by_cases e : vs[k] = ws[k]
  · simp [e]
  · have : ¬ (ws.take k ++ [vs[k]] = ws.take k ++ [ws[k]]) := by
      intro h3
      have h4 := List.append_cancel_left h3
      injection h4 with h5
      exact e h5
    rw [decide_eq_false this]
    symm
    simpa using e

set_option maxRecDepth 100000 in
set_option maxHeartbeats 4000000 in
theorem lawEqual_any (l l2 : List Int) (A A' : Option Addr) (n c n' c' : Nat) (t0 x0 : Int) (w : World) (hr : Rd w w.heap.size 1 A n (i64s l)) (hr' : Rd w w.heap.size 1 A' n' (i64s l2)) (hm : n ≤ maxLen) (hm' : n' ≤ maxLen) :
    Calls Try.prog 6 #[.slice A n c, .slice A' n' c', .int .i64 t0, .int .i64 x0] w fun e w' => e = .returned (.bool true) ∧ Below w.heap.size w w' := by
  obtain ⟨vs, hv⟩ : ∃ vs, vals l = vs := ⟨_, rfl⟩
  obtain ⟨m, hvm⟩ : ∃ m, vs.length = m := ⟨_, rfl⟩
  have hm40 : m ≤ 40 := by rw [← hvm, ← hv, vals]; simp; omega
  obtain ⟨ws, hv'⟩ : ∃ ws, vals l2 = ws := ⟨_, rfl⟩
  obtain ⟨m', hvm'⟩ : ∃ m', ws.length = m' := ⟨_, rfl⟩
  have hm40' : m' ≤ 40 := by rw [← hvm', ← hv', vals]; simp; omega
  obtain ⟨rs, hrs⟩ : ∃ rs, ofL vs = rs := ⟨_, rfl⟩
  have hsp := ofL_spec vs
  have hln := ofL_length vs
  have htt := ofL_tot vs
  rw [hrs] at hsp hln htt
  rw [hvm] at hln htt
  obtain ⟨rn, hrn⟩ : ∃ rn, rs.length = rn := ⟨_, rfl⟩
  obtain ⟨ss, hss⟩ : ∃ ss, ofL ws = ss := ⟨_, rfl⟩
  have hsp' := ofL_spec ws
  have hln' := ofL_length ws
  rw [hss] at hsp' hln'
  rw [hvm'] at hln'
  obtain ⟨sn, hsn⟩ : ∃ sn, ss.length = sn := ⟨_, rfl⟩
  have heq := runs_same hsp.1 hsp'.1 hsp.2 hsp'.2
  obtain ⟨x, hx⟩ : ∃ x, x0 % 5 = x := ⟨_, rfl⟩
  have HV := Lib.hid (values_any l A n c _ w hr hm vs hv m hvm)
  have HV' := Lib.hid (fun (W : World) (hb : Below w.heap.size w W) => values_any l2 A' n' c' _ W (hr'.below hb (Nat.le_refl _)) hm' ws hv' m' hvm')
  have HM5 := Lib.hid (fun w => mod_eq x0 5 x (by omega) (by omega) hx w)
  have HMt := Lib.hid (fun (a : Int) (h1 : 1 ≤ m) (h : t0 % (m : Int) = a) w => mod_eq t0 m a (by omega) (by omega) h w)
  have HO := Lib.hid (fun (W : World) (A : Option Addr) (c B : Nat) (h : Rd W B 1 A m (i64s vs)) => of_any vs A m c B W h (by omega))
  have HO' := Lib.hid (fun (W : World) (A : Option Addr) (c B : Nat) (h : Rd W B 1 A m' (i64s ws)) => of_any ws A m' c B W h (by omega))
  rw [hrs] at HO
  rw [hss] at HO'
  have HEab := Lib.hid (fun (W : World) (A A2 : Option Addr) (c c2 : Nat) (h : Rd W W.heap.size 2 A rn (rnCells rs)) (h2 : Rd W W.heap.size 2 A2 sn (rnCells ss)) (r : Bool) (e : decide (vs = ws) = r) => equal_any rs ss A A2 rn c sn c2 _ W h h2 (by omega) (by omega) (Nat.le_refl _) r (by rw [heq, e]))
  have HEaa := Lib.hid (fun (W : World) (A A2 : Option Addr) (c c2 : Nat) (h : Rd W W.heap.size 2 A rn (rnCells rs)) (h2 : Rd W W.heap.size 2 A2 rn (rnCells rs)) => equal_any rs rs A A2 rn c rn c2 _ W h h2 (by omega) (by omega) (Nat.le_refl _) true (by simp))
  have HS := Lib.hid (fun (W : World) (A : Option Addr) (c : Nat) (a : Nat) (ha : a < m) (h : Rd W W.heap.size 2 A rn (rnCells rs)) => set_any rs A rn c _ (a : Int) 1 x W h (by omega) (by omega) (by omega) (by omega) (by omega) (by omega))
  have HSP := Lib.hid (show Mx rs ∧ expand rs = vs ∧ tot rs = m from ⟨hsp.1, hsp.2, htt⟩)
  have hE0 : ∀ (h0 : m = 0) (W : World) (A : Option Addr) (c : Nat) (h : Rd W W.heap.size 2 A rn (rnCells rs)), Calls Try.prog 23 #[lv A rn c, lv none 0 0] W fun e w' => e = .returned (.bool true) ∧ Below W.heap.size W w' := by
    intro h0 W A c h
    have h1 : rs = [] := List.length_eq_zero_iff.1 (by omega)
    have h2 : Rd W W.heap.size 2 none 0 (rnCells []) := Rd.of_own (World.ownsRow_nil W W.heap.size 36 2)
    exact equal_any rs [] A none rn c 0 0 _ W h h2 (by omega) (by omega) (Nat.le_refl _) true (by simp [h1])
  have HE0 := Lib.hid hE0
  have HRL := Lib.hid (show rn ≤ 40 by omega)
  have HVM := Lib.hid hvm
  have HVM' := Lib.hid hvm'
  have HRN := Lib.hid hrn
  have HSN := Lib.hid hsn
  clear hr hr' hv hv' hvm hvm' hrs hss hsp hsp' hln hln' htt hrn hsn heq hx hE0
  go_enter Try.func6, Try.ntmps6
  go_wp2_with fail
  refine HV.out.mono ?_
  rintro e w1 ⟨A1, c1, rfl, hown1, hb1⟩
  have hR1 := Rd.of_own hown1
  clear hown1
  go_wp2_with fail
  refine (HV'.out _ hb1).mono ?_
  rintro e w2 ⟨A2, c2, rfl, hown2, hb2⟩
  have HR2 := Lib.hid (Rd.of_own hown2)
  have HR1 := Lib.hid ((hR1.below hb2 (Nat.le_refl _)).more hb2.size)
  have hbw2 := ext_trans hb1 hb2
  clear hown2 hR1 hb1 hb2 HV HV'
  obtain ⟨s0, hs0⟩ : ∃ s0, decide (m = m') = s0 := ⟨_, rfl⟩
  have hs0' : ((m : Int) == (m' : Int)) = s0 := by
    rw [← hs0]
    by_cases h : m = m'
    · simp [h]
    · have h2 : ¬ (m : Int) = (m' : Int) := by omega
      simp [h, h2]
  go_wp2_with fail
  go_loopw [11, 12] (fun s i wr => ∃ k : Nat, k ≤ m ∧ i = .int .i64 k ∧ s = .bool (decide (m = m' ∧ vs.take k = ws.take k)) ∧ Below w2.heap.size w2 wr) (fun _ i _ => m - (intOf i).toNat)
  case atStart => exact ⟨0, by omega, rfl, by rw [← hs0]; simp, Below.refl _ _⟩
  case round =>
    obtain ⟨k, hk, rfl, rfl, hbr⟩ := hrel
    obtain ⟨σ, hσ⟩ : ∃ σ, decide (m = m' ∧ vs.take k = ws.take k) = σ := ⟨_, rfl⟩
    rw [hσ]
    have hgo : (k < m ∧ σ = true) ∨ (decide (vs = ws) = σ ∧ (k < m ∨ k = m) ∧ (k < m → σ = false)) := by
      by_cases h1 : k < m
      · cases σ with
        | true => exact .inl ⟨h1, rfl⟩
        | false =>
          refine .inr ⟨?_, .inl h1, fun _ => rfl⟩
          have h2 := of_decide_eq_false hσ
          apply decide_eq_false
          intro e
          apply h2
          refine ⟨?_, by rw [e]⟩
          rw [← HVM.out, ← HVM'.out, e]
      · have hkm : k = m := by omega
        refine .inr ⟨?_, .inr hkm, fun h => absurd h h1⟩
        rw [← hσ]
        by_cases e : vs = ws
        · have : m = m' := by rw [← HVM.out, ← HVM'.out, e]
          simp [e, this]
        · have : ¬ (m = m' ∧ vs.take k = ws.take k) := by
            rintro ⟨e1, e2⟩
            rw [List.take_of_length_le (by rw [HVM.out]; omega), List.take_of_length_le (by rw [HVM'.out]; omega)] at e2
            exact e e2
          simp [e, this]
    rcases hgo with ⟨hlt, rfl⟩ | ⟨hd, hkc, hkf⟩
    · have hσ2 := of_decide_eq_true hσ
      obtain ⟨hmm, htk⟩ := hσ2
      obtain ⟨b1, o1, rfl, _, z0⟩ := int_at (HR1.out.below hbr (Nat.le_refl _)) k hlt
      have hlt' : k < m' := by omega
      obtain ⟨b2, o2, rfl, _, z1⟩ := int_at (HR2.out.below hbr (Nat.le_refl _)) k hlt'
      have hst := same_step vs ws k (by rw [HVM.out]; exact hlt) (by rw [HVM'.out]; exact hlt') htk
      obtain ⟨y0, hy0⟩ : ∃ y, vs.getD k 0 = y := ⟨_, rfl⟩
      obtain ⟨y1, hy1⟩ : ∃ y, ws.getD k 0 = y := ⟨_, rfl⟩
      rw [hy0] at z0 hst
      rw [hy1] at z1 hst
      have hnx : decide (m = m' ∧ vs.take (k + 1) = ws.take (k + 1)) = (y0 == y1) := by
        rw [← hst]
        simp [hmm]
      have HNX := Lib.hid hnx
      clear hσ htk hst hy0 hy1 hnx hmm hs0 hs0'
      go_wp2_with fail
      go_quiet (fail)
      go_wp2
      exact ⟨⟨k + 1, by omega, by go_num, by rw [HNX.out], below_drewN hbr _⟩, by simp [intOf]; omega⟩
    · have HD := Lib.hid hd
      clear hσ hd hs0 hs0'
      have HR1' := Lib.hid (HR1.out.below hbr (Nat.le_refl _))
      have HR2' := Lib.hid (HR2.out.below hbr (Nat.le_refl _))
      have hs2 := hbr.size
      have hbw3 := ext_trans hbw2 hbr
      clear hbr hbw2 HR1 HR2
      have hkc2 : (k < m ∧ σ = false) ∨ (¬ k < m ∧ k = m) := by
        rcases hkc with h | h
        · exact .inl ⟨h, hkf h⟩
        · exact .inr ⟨by omega, h⟩
      clear hkc hkf
      rcases hkc2 with ⟨hkl, rfl⟩ | ⟨hkl, hkm⟩
      all_goals
        go_wp2_with fail
        refine (HO.out _ _ _ _ HR1'.out).mono ?_
        intro e w3 h
        obtain ⟨A3, c3, rfl, hR3, hb3⟩ := h.open_ rn HRN.out
        have HR1b := Lib.hid (HR1'.out.below hb3 hs2)
        have HR2b := Lib.hid (HR2'.out.below hb3 hs2)
        have hs3 := hb3.size
        have hbw4 := ext_trans hbw3 hb3
        clear hb3 hbw3 h HO HR1' HR2'
        go_wp2_with fail
        refine (HO'.out _ _ _ _ HR2b.out).mono ?_
        intro e w4 h
        obtain ⟨A4, c4, rfl, hR4, hb4⟩ := h.open_ sn HSN.out
        have HV4 := Lib.hid (((HR1b.out.below hb4 (by omega)).more (show w2.heap.size ≤ w4.heap.size by have := hb4.size; omega)))
        have HR3b := Lib.hid ((hR3.below hb4 (Nat.le_refl _)).more hb4.size)
        have HR4b := Lib.hid hR4
        have hbw5 := ext_trans hbw4 hb4
        clear hb4 hbw4 h HO' HR1b HR2b hR3 hR4 hs2 hs3
        go_wp2_with fail
        have b0 := (Box.alloc_ (w := w4) (cs := #[.slice A3 rn c3]) (e := 38)).alloc' (.cells #[.slice A4 sn c4] 38)
        have v0 := ((HV4.out.alloc' (.cells #[.slice A3 rn c3] 38) (Nat.le_refl _)).alloc' (.cells #[.slice A4 sn c4] 38) (by simp))
        have r3 := ((HR3b.out.alloc' (.cells #[.slice A3 rn c3] 38) (Nat.le_refl _)).alloc' (.cells #[.slice A4 sn c4] 38) (by simp)).more (show w4.heap.size ≤ ((w4.alloc (.cells #[.slice A3 rn c3] 38)).alloc (.cells #[.slice A4 sn c4] 38)).heap.size by simp; omega)
        have r4 := ((HR4b.out.alloc' (.cells #[.slice A3 rn c3] 38) (Nat.le_refl _)).alloc' (.cells #[.slice A4 sn c4] 38) (by simp)).more (show w4.heap.size ≤ ((w4.alloc (.cells #[.slice A3 rn c3] 38)).alloc (.cells #[.slice A4 sn c4] 38)).heap.size by simp; omega)
        have hbW := ext_alloc (ext_alloc hbw5 (.cells #[.slice A3 rn c3] 38)) (.cells #[.slice A4 sn c4] 38)
        have hsW : w4.heap.size ≤ ((w4.alloc (.cells #[.slice A3 rn c3] 38)).alloc (.cells #[.slice A4 sn c4] 38)).heap.size := by simp; omega
        revert b0 v0 r3 r4 hbW hsW
        generalize ((w4.alloc (.cells #[.slice A3 rn c3] 38)).alloc (.cells #[.slice A4 sn c4] 38)) = W0
        intro b0 v0 r3 r4 hbW hsW
        refine (HEab.out _ _ _ _ _ r3 r4 _ HD.out).mono ?_
        rintro e w5 ⟨rfl, hb5⟩
        have HB5 := Lib.hid (b0.below hb5)
        have HR5 := Lib.hid ((r3.below hb5 (Nat.le_refl _)).more hb5.size)
        have HV5 := Lib.hid (v0.below hb5 hsW)
        have hbw6 := ext_trans hbW hb5
        have hs5 : w4.heap.size ≤ w5.heap.size := Nat.le_trans hsW hb5.size
        obtain ⟨q1, z1, l1⟩ := HB5.out
        clear b0 v0 r3 r4 hbW hsW hb5 hbw5 HV4 HR3b HR4b HEab
        go_wp2_with fail
        refine (HEaa.out _ _ _ _ _ HR5.out HR5.out).mono ?_
        rintro e w6 ⟨rfl, hb6⟩
        have HB6 := Lib.hid (HB5.out.below hb6)
        have HR6 := Lib.hid ((HR5.out.below hb6 (Nat.le_refl _)).more hb6.size)
        have HV6 := Lib.hid (HV5.out.below hb6 hs5)
        have hbw7 := ext_trans hbw6 hb6
        have hs6 : w4.heap.size ≤ w6.heap.size := Nat.le_trans hs5 hb6.size
        clear HB5 HR5 HV5 hbw6 hs5 q1 z1 l1 hb6
        by_cases h0 : m = 0
        · have h00 : ((m : Int) == 0) = true := by simp [h0]
          have HE0' := Lib.hid (HE0.out h0)
          clear h0 HE0
          go_wp2_with fail
          refine (awake_any _).mono ?_
          rintro e w7 ⟨rfl, hb7⟩
          obtain ⟨q1, z1, l1⟩ := HB6.out.below hb7
          have HR7 := Lib.hid ((HR6.out.below hb7 (Nat.le_refl _)).more hb7.size)
          have hbw8 := ext_trans hbw7 hb7
          clear hb7
          go_wp2_with fail
          refine (HE0'.out _ _ _ HR7.out).mono ?_
          rintro e w8 ⟨rfl, hb8⟩
          go_wp2
          go_ret
          exact ⟨rfl, ext_trans hbw8 hb8⟩
        · have h00 : ((m : Int) == 0) = false := by
            have : ¬ (m : Int) = 0 := by omega
            simpa using this
          obtain ⟨a, ha, halt⟩ : ∃ a : Nat, t0 % (m : Int) = (a : Int) ∧ a < m := by
            have h1 := Int.emod_nonneg t0 (show (m : Int) ≠ 0 by omega)
            have h2 := Int.emod_lt_of_pos t0 (show (0 : Int) < m by omega)
            exact ⟨(t0 % (m : Int)).toNat, by omega, by omega⟩
          have HMA := Lib.hid (HMt.out (a : Int) (by omega) ha)
          clear h0 ha HMt
          go_wp2_with fail
          refine (HMA.out _).mono ?_
          rintro e w' ⟨rfl, rfl⟩
          go_wp2_with fail
          refine (HM5.out _).mono ?_
          rintro e w' ⟨rfl, rfl⟩
          go_wp2_with fail
          obtain ⟨b, off, rfl, hbl, c6⟩ := int_at HV6.out a halt
          obtain ⟨y, hy⟩ : ∃ y, vs.getD a 0 = y := ⟨_, rfl⟩
          rw [hy] at c6
          have hbl6 : b < w6.heap.size := Nat.lt_of_lt_of_le hbl hs6
          obtain ⟨hP1, hP2, hP3⟩ := HSP.out
          have hav : a < vs.length := by rw [HVM.out]; exact halt
          have hrl := HRL.out
          obtain ⟨q, hq⟩ : ∃ q, setL rs a (a + 1) x = q := ⟨_, rfl⟩
          have hs1 := set_one rs vs a x hP1 hP2 hav (by rw [HVM.out]; omega)
          rw [hq] at hs1
          have hs2 := set_one q (vs.set a x) a y hs1.1 hs1.2 (by simpa using hav) (by simp [HVM.out]; omega)
          rw [set_back vs a hav x y hy] at hs2
          have hqr : setL q a (a + 1) y = rs := Mx_unique _ _ none none hs2.1 hP1 (hs2.2.trans hP2.symm)
          have hqe : decide (q = rs) = (y == x) := (runs_same hs1.1 hP1 hs1.2 hP2).trans (set_same vs a hav x y hy)
          have hqt : tot q = m := by rw [← expand_length, hs1.2]; simp [HVM.out]
          have hqn2 := mx_length q none hs1.1
          obtain ⟨qn, hqn⟩ : ∃ qn, q.length = qn := ⟨_, rfl⟩
          have hS1 : ∀ (W : World) (A : Option Addr) (c : Nat), Rd W W.heap.size 2 A rn (rnCells rs) → Calls Try.prog 24 #[lv A rn c, .int .i64 a, .int .i64 1, .int .i64 x] W (RetL W q) := by
            intro W A c h
            have h1 := HS.out W A c a halt h
            rw [hP3, clip_one a m halt] at h1
            simp only [hq] at h1
            exact h1
          have hS2 : ∀ (W : World) (A : Option Addr) (c : Nat), Rd W W.heap.size 2 A qn (rnCells q) → Calls Try.prog 24 #[lv A qn c, .int .i64 a, .int .i64 1, .int .i64 y] W (RetL W rs) := by
            intro W A c h
            have h1 := set_any q A qn c _ (a : Int) 1 y W h (by omega) (by omega) (by omega) (by omega) (by omega) (by omega)
            rw [hqt, clip_one a m halt] at h1
            simp only [hqr] at h1
            exact h1
          have hE1 : ∀ (W : World) (A A2 : Option Addr) (c c2 : Nat), Rd W W.heap.size 2 A qn (rnCells q) → Rd W W.heap.size 2 A2 rn (rnCells rs) → Calls Try.prog 23 #[lv A qn c, lv A2 rn c2] W fun e w' => e = .returned (.bool (y == x)) ∧ Below W.heap.size W w' :=
            fun W A A2 c c2 h h2 => equal_any q rs A A2 qn c rn c2 _ W h h2 (by omega) (by omega) (Nat.le_refl _) _ hqe
          have HS1 := Lib.hid hS1
          have HS2 := Lib.hid hS2
          have HE1 := Lib.hid hE1
          have HQN := Lib.hid hqn
          have hat2 : decide (a < m) = true := by simpa using halt
          have hat3 : decide ((a : Int) < (m : Int)) = true := by simp; omega
          have HC6 := Lib.hid c6
          clear hS1 hS2 hE1 hqn hqn2 hqt hqe hqr hs1 hs2 hq hP1 hP2 hP3 hav hrl hy HS HVM HSP HE0 c6
          have hS0 : (∀ i, w6.drew.cell? ⟨w4.heap.size, i, none⟩ = (#[.slice A3 rn c3] : Array Value)[i]?) ∧ w6.drew.cell? ⟨b, off + a, none⟩ = some (.int .i64 y) ∧ True := ⟨HB6.out.1, HC6.out, trivial⟩
          refine rgs_start (fun w' => (∀ i, w'.cell? ⟨w4.heap.size, i, none⟩ = (#[.slice A3 rn c3] : Array Value)[i]?) ∧ w'.cell? ⟨b, off + a, none⟩ = some (.int .i64 y) ∧ True) (by kernel_rfl) ?_
          refine rgs_c 0 (by kernel_rfl) rfl (by rfl) (fun K hK => ?_)
          go_simp
          refine (awake_any _).mono ?_
          rintro e w7 ⟨rfl, hb7⟩
          have HB7 := Lib.hid (HB6.out.drew.below hb7)
          have HR7 := Lib.hid ((HR6.out.below (w := w6.drew) hb7 (Nat.le_refl _)).more hb7.size)
          have HC7 := Lib.hid ((hb7.cell (p := ⟨b, off + a, none⟩) hbl6).trans HC6.out)
          have hbl7 := Nat.lt_of_lt_of_le hbl6 hb7.size
          have hbw8 := ext_trans (below_drew hbw7) hb7
          have hS7 : (∀ i, w7.cell? ⟨w4.heap.size, i, none⟩ = (#[.slice A3 rn c3] : Array Value)[i]?) ∧ w7.cell? ⟨b, off + a, none⟩ = some (.int .i64 y) ∧ True := ⟨HB7.out.1, HC7.out, trivial⟩
          refine hK _ _ hS7 ?_
          clear hK K
          try simp only [Act.put, List.setIfInBounds_toArray, List.set_cons_zero, List.set_cons_succ]
          refine rgs_t (v := ?_) (some 73) 1 (by kernel_rfl) rfl rfl (by assumption) (.inl ⟨by rfl, fun w' hw => ?_⟩) ?_
          rotate_left
          · obtain ⟨q1, q2, q3⟩ := hw; go_simp <;> with_reducible rfl
          try simp only [Act.put, List.setIfInBounds_toArray, List.set_cons_zero, List.set_cons_succ]
          refine rgs_t (v := ?_) (some 74) 2 (by kernel_rfl) rfl rfl (by assumption) (.inl ⟨by rfl, fun w' hw => ?_⟩) ?_
          rotate_left
          · obtain ⟨q1, q2, q3⟩ := hw; go_simp <;> with_reducible rfl
          try simp only [Act.put, List.setIfInBounds_toArray, List.set_cons_zero, List.set_cons_succ]
          refine rgs_t (v := ?_) (some 75) 3 (by kernel_rfl) rfl rfl (by assumption) (.inl ⟨by rfl, fun w' hw => ?_⟩) ?_
          rotate_left
          · obtain ⟨q1, q2, q3⟩ := hw; go_simp <;> with_reducible rfl
          try simp only [Act.put, List.setIfInBounds_toArray, List.set_cons_zero, List.set_cons_succ]
          refine rgs_t (v := ?_) (some 76) 4 (by kernel_rfl) rfl rfl (by assumption) (.inl ⟨by rfl, fun w' hw => ?_⟩) ?_
          rotate_left
          · obtain ⟨q1, q2, q3⟩ := hw; go_simp <;> with_reducible rfl
          try simp only [Act.put, List.setIfInBounds_toArray, List.set_cons_zero, List.set_cons_succ]
          refine rgs_t (v := ?_) (some 78) 6 (by kernel_rfl) rfl rfl (by assumption) (.inl ⟨by rfl, fun w' hw => ?_⟩) ?_
          rotate_left
          · obtain ⟨q1, q2, q3⟩ := hw; go_simp <;> with_reducible rfl
          try simp only [Act.put, List.setIfInBounds_toArray, List.set_cons_zero, List.set_cons_succ]
          refine rgs_t (v := ?_) (some 80) 8 (by kernel_rfl) rfl rfl (by assumption) (.inl ⟨by rfl, fun w' hw => ?_⟩) ?_
          rotate_left
          · obtain ⟨q1, q2, q3⟩ := hw; go_simp <;> with_reducible rfl
          try simp only [Act.put, List.setIfInBounds_toArray, List.set_cons_zero, List.set_cons_succ]
          refine rgs_t (v := ?_) (some 81) 9 (by kernel_rfl) rfl rfl (by assumption) (.inl ⟨by rfl, fun w' hw => ?_⟩) ?_
          rotate_left
          · obtain ⟨q1, q2, q3⟩ := hw; go_simp <;> with_reducible rfl
          try simp only [Act.put, List.setIfInBounds_toArray, List.set_cons_zero, List.set_cons_succ]
          refine rgs_t (v := ?_) (some 82) 10 (by kernel_rfl) rfl rfl (by assumption) (.inl ⟨by rfl, fun w' hw => ?_⟩) ?_
          rotate_left
          · obtain ⟨q1, q2, q3⟩ := hw; go_simp <;> with_reducible rfl
          try simp only [Act.put, List.setIfInBounds_toArray, List.set_cons_zero, List.set_cons_succ]
          refine rgs_t (v := ?_) (some 83) 11 (by kernel_rfl) rfl rfl (by assumption) (.inl ⟨by rfl, fun w' hw => ?_⟩) ?_
          rotate_left
          · obtain ⟨q1, q2, q3⟩ := hw; go_simp <;> with_reducible rfl
          try simp only [Act.put, List.setIfInBounds_toArray, List.set_cons_zero, List.set_cons_succ]
          refine rgs_t (v := ?_) (some 84) 12 (by kernel_rfl) rfl rfl (by assumption) (.inl ⟨by rfl, fun w' hw => ?_⟩) ?_
          rotate_left
          · obtain ⟨q1, q2, q3⟩ := hw; go_simp <;> with_reducible rfl
          try simp only [Act.put, List.setIfInBounds_toArray, List.set_cons_zero, List.set_cons_succ]
          refine rgs_t (v := ?_) (some 85) 13 (by kernel_rfl) rfl rfl (by assumption) (.inl ⟨by rfl, fun w' hw => ?_⟩) ?_
          rotate_left
          · obtain ⟨q1, q2, q3⟩ := hw; go_simp <;> with_reducible rfl
          try simp only [Act.put, List.setIfInBounds_toArray, List.set_cons_zero, List.set_cons_succ]
          refine rgs_c 5 (by kernel_rfl) rfl (by rfl) (fun K hK => ?_)
          go_simp
          refine (HS1.out _ _ _ HR7.out).mono ?_
          intro e w8 h
          obtain ⟨A8, c8, rfl, hR8, hb8⟩ := h.open_ qn HQN.out
          clear h
          have HB8 := Lib.hid (HB7.out.below hb8)
          have HR8 := Lib.hid ((HR7.out.below hb8 (Nat.le_refl _)).more hb8.size)
          have HQ8 := Lib.hid hR8
          have HC8 := Lib.hid ((hb8.cell (p := ⟨b, off + a, none⟩) hbl7).trans HC7.out)
          have hbl8 := Nat.lt_of_lt_of_le hbl7 hb8.size
          have hbw9 := ext_trans hbw8 hb8
          have hS8 : (∀ i, w8.cell? ⟨w4.heap.size, i, none⟩ = (#[.slice A3 rn c3] : Array Value)[i]?) ∧ w8.cell? ⟨b, off + a, none⟩ = some (.int .i64 y) ∧ True := ⟨HB8.out.1, HC8.out, trivial⟩
          refine hK _ _ hS8 ?_
          clear hK K
          try simp only [Act.put, List.setIfInBounds_toArray, List.set_cons_zero, List.set_cons_succ]
          refine rgs_c 7 (by kernel_rfl) rfl (by rfl) (fun K hK => ?_)
          go_simp
          refine (HE1.out _ _ _ _ _ HQ8.out HR8.out).mono ?_
          rintro e w9 ⟨rfl, hb9⟩
          have HB9 := Lib.hid (HB8.out.below hb9)
          have HR9 := Lib.hid ((HR8.out.below hb9 (Nat.le_refl _)).more hb9.size)
          have HC9 := Lib.hid ((hb9.cell (p := ⟨b, off + a, none⟩) hbl8).trans HC8.out)
          have hbl9 := Nat.lt_of_lt_of_le hbl8 hb9.size
          have hbw10 := ext_trans hbw9 hb9
          have hS9 : (∀ i, w9.cell? ⟨w4.heap.size, i, none⟩ = (#[.slice A3 rn c3] : Array Value)[i]?) ∧ w9.cell? ⟨b, off + a, none⟩ = some (.int .i64 y) ∧ True := ⟨HB9.out.1, HC9.out, trivial⟩
          refine hK _ _ hS9 ?_
          clear hK K
          try simp only [Act.put, List.setIfInBounds_toArray, List.set_cons_zero, List.set_cons_succ]
          refine rgs_t (v := ?_) (some 86) 14 (by kernel_rfl) rfl rfl (by assumption) (.inl ⟨by rfl, fun w' hw => ?_⟩) ?_
          rotate_left
          · obtain ⟨q1, q2, q3⟩ := hw; go_simp <;> with_reducible rfl
          try simp only [Act.put, List.setIfInBounds_toArray, List.set_cons_zero, List.set_cons_succ]
          refine rgs_t (v := ?_) (some 87) 15 (by kernel_rfl) rfl rfl (by assumption) (.inl ⟨by rfl, fun w' hw => ?_⟩) ?_
          rotate_left
          · obtain ⟨q1, q2, q3⟩ := hw; go_simp <;> with_reducible rfl
          try simp only [Act.put, List.setIfInBounds_toArray, List.set_cons_zero, List.set_cons_succ]
          refine rgs_t (v := ?_) (some 88) 16 (by kernel_rfl) rfl rfl (by assumption) (.inl ⟨by rfl, fun w' hw => ?_⟩) ?_
          rotate_left
          · obtain ⟨q1, q2, q3⟩ := hw; go_simp <;> with_reducible rfl
          try simp only [Act.put, List.setIfInBounds_toArray, List.set_cons_zero, List.set_cons_succ]
          refine rgs_t (v := ?_) (some 89) 17 (by kernel_rfl) rfl rfl (by assumption) (.inl ⟨by rfl, fun w' hw => ?_⟩) ?_
          rotate_left
          · obtain ⟨q1, q2, q3⟩ := hw; go_simp <;> with_reducible rfl
          try simp only [Act.put, List.setIfInBounds_toArray, List.set_cons_zero, List.set_cons_succ]
          refine rgs_t (v := ?_) (some 90) 18 (by kernel_rfl) rfl rfl (by assumption) (.inl ⟨by rfl, fun w' hw => ?_⟩) ?_
          rotate_left
          · obtain ⟨q1, q2, q3⟩ := hw; go_simp <;> with_reducible rfl
          try simp only [Act.put, List.setIfInBounds_toArray, List.set_cons_zero, List.set_cons_succ]
          refine rgs_t (v := ?_) (some 91) 19 (by kernel_rfl) rfl rfl (by assumption) (.inl ⟨by rfl, fun w' hw => ?_⟩) ?_
          rotate_left
          · obtain ⟨q1, q2, q3⟩ := hw; go_simp <;> with_reducible rfl
          try simp only [Act.put, List.setIfInBounds_toArray, List.set_cons_zero, List.set_cons_succ]
          refine rgs_t (v := ?_) (some 93) 21 (by kernel_rfl) rfl rfl (by assumption) (.inl ⟨by rfl, fun w' hw => ?_⟩) ?_
          rotate_left
          · obtain ⟨q1, q2, q3⟩ := hw; go_simp <;> with_reducible rfl
          try simp only [Act.put, List.setIfInBounds_toArray, List.set_cons_zero, List.set_cons_succ]
          refine rgs_t (v := ?_) (some 94) 22 (by kernel_rfl) rfl rfl (by assumption) (.inl ⟨by rfl, fun w' hw => ?_⟩) ?_
          rotate_left
          · obtain ⟨q1, q2, q3⟩ := hw; go_simp <;> with_reducible rfl
          try simp only [Act.put, List.setIfInBounds_toArray, List.set_cons_zero, List.set_cons_succ]
          refine rgs_t (v := ?_) (some 95) 23 (by kernel_rfl) rfl rfl (by assumption) (.inl ⟨by rfl, fun w' hw => ?_⟩) ?_
          rotate_left
          · obtain ⟨q1, q2, q3⟩ := hw; go_simp <;> with_reducible rfl
          try simp only [Act.put, List.setIfInBounds_toArray, List.set_cons_zero, List.set_cons_succ]
          refine rgs_t (v := ?_) (some 96) 24 (by kernel_rfl) rfl rfl (by assumption) (.inl ⟨by rfl, fun w' hw => ?_⟩) ?_
          rotate_left
          · obtain ⟨q1, q2, q3⟩ := hw; go_simp <;> with_reducible rfl
          try simp only [Act.put, List.setIfInBounds_toArray, List.set_cons_zero, List.set_cons_succ]
          refine rgs_t (v := ?_) (some 97) 25 (by kernel_rfl) rfl rfl (by assumption) (.inl ⟨by rfl, fun w' hw => ?_⟩) ?_
          rotate_left
          · obtain ⟨q1, q2, q3⟩ := hw; go_simp <;> with_reducible rfl
          try simp only [Act.put, List.setIfInBounds_toArray, List.set_cons_zero, List.set_cons_succ]
          refine rgs_t (v := ?_) (some 99) 27 (by kernel_rfl) rfl rfl (by assumption) (.inl ⟨by rfl, fun w' hw => ?_⟩) ?_
          rotate_left
          · obtain ⟨q1, q2, q3⟩ := hw; go_simp <;> with_reducible rfl
          try simp only [Act.put, List.setIfInBounds_toArray, List.set_cons_zero, List.set_cons_succ]
          refine rgs_c 20 (by kernel_rfl) rfl (by rfl) (fun K hK => ?_)
          go_simp
          refine (HS1.out _ _ _ HR9.out).mono ?_
          intro e w10 h
          obtain ⟨A10, c10, rfl, hR10, hb10⟩ := h.open_ qn HQN.out
          clear h
          have HB10 := Lib.hid (HB9.out.below hb10)
          have HR10 := Lib.hid ((HR9.out.below hb10 (Nat.le_refl _)).more hb10.size)
          have HQ10 := Lib.hid hR10
          have HC10 := Lib.hid ((hb10.cell (p := ⟨b, off + a, none⟩) hbl9).trans HC9.out)
          have hbl10 := Nat.lt_of_lt_of_le hbl9 hb10.size
          have hbw11 := ext_trans hbw10 hb10
          have hS10 : (∀ i, w10.cell? ⟨w4.heap.size, i, none⟩ = (#[.slice A3 rn c3] : Array Value)[i]?) ∧ w10.cell? ⟨b, off + a, none⟩ = some (.int .i64 y) ∧ True := ⟨HB10.out.1, HC10.out, trivial⟩
          refine hK _ _ hS10 ?_
          clear hK K
          try simp only [Act.put, List.setIfInBounds_toArray, List.set_cons_zero, List.set_cons_succ]
          refine rgs_c 26 (by kernel_rfl) rfl (by rfl) (fun K hK => ?_)
          go_simp
          refine (HS2.out _ _ _ HQ10.out).mono ?_
          intro e w11 h
          obtain ⟨A11, c11, rfl, hR11, hb11⟩ := h.open_ rn HRN.out
          clear h
          have HB11 := Lib.hid (HB10.out.below hb11)
          have HR11 := Lib.hid ((HR10.out.below hb11 (Nat.le_refl _)).more hb11.size)
          have HQ11 := Lib.hid hR11
          have HC11 := Lib.hid ((hb11.cell (p := ⟨b, off + a, none⟩) hbl10).trans HC10.out)
          have hbl11 := Nat.lt_of_lt_of_le hbl10 hb11.size
          have hbw12 := ext_trans hbw11 hb11
          have hS11 : (∀ i, w11.cell? ⟨w4.heap.size, i, none⟩ = (#[.slice A3 rn c3] : Array Value)[i]?) ∧ w11.cell? ⟨b, off + a, none⟩ = some (.int .i64 y) ∧ True := ⟨HB11.out.1, HC11.out, trivial⟩
          refine hK _ _ hS11 ?_
          clear hK K
          try simp only [Act.put, List.setIfInBounds_toArray, List.set_cons_zero, List.set_cons_succ]
          refine rgs_c 28 (by kernel_rfl) rfl (by rfl) (fun K hK => ?_)
          go_simp
          refine (HEaa.out _ _ _ _ _ HQ11.out HR11.out).mono ?_
          rintro e w12 ⟨rfl, hb12⟩
          have HB12 := Lib.hid (HB11.out.below hb12)
          have HC12 := Lib.hid ((hb12.cell (p := ⟨b, off + a, none⟩) hbl11).trans HC11.out)
          have hbw13 := ext_trans hbw12 hb12
          have hS12 : (∀ i, w12.cell? ⟨w4.heap.size, i, none⟩ = (#[.slice A3 rn c3] : Array Value)[i]?) ∧ w12.cell? ⟨b, off + a, none⟩ = some (.int .i64 y) ∧ True := ⟨HB12.out.1, HC12.out, trivial⟩
          refine hK _ _ hS12 ?_
          clear hK K
          try simp only [Act.put, List.setIfInBounds_toArray, List.set_cons_zero, List.set_cons_succ]
          refine rgs_t (v := ?_) (some 101) 29 (by kernel_rfl) rfl rfl (by assumption) (.inl ⟨by rfl, fun w' hw => ?_⟩) ?_
          rotate_left
          · obtain ⟨q1, q2, q3⟩ := hw; go_simp <;> with_reducible rfl
          try simp only [Act.put, List.setIfInBounds_toArray, List.set_cons_zero, List.set_cons_succ]
          refine rgs_t (v := ?_) (some 8) 30 (by kernel_rfl) rfl rfl (by assumption) (.inl ⟨by rfl, fun w' hw => ?_⟩) ?_
          rotate_left
          · obtain ⟨q1, q2, q3⟩ := hw; go_simp <;> with_reducible rfl
          try simp only [Act.put, List.setIfInBounds_toArray, List.set_cons_zero, List.set_cons_succ]
          refine rgs_d (by kernel_rfl) ?_
          go_wp2
          go_ret
          exact ⟨rfl, hbw13⟩
theorem lawEqualI (l l2 : List Int) (A A' : Option Addr) (c c' : Nat) (t x : Int) (w : World) (hr : Rd w w.heap.size 1 A l.length (l.map fun x => [Value.int .i64 x]).flatten) (hlc : l.length ≤ c) (hc : c ≤ maxLen) (hr' : Rd w w.heap.size 1 A' l2.length (l2.map fun x => [Value.int .i64 x]).flatten) (hlc' : l2.length ≤ c') (hc' : c' ≤ maxLen) :
    Calls Try.prog 6 #[.slice A l.length c, .slice A' l2.length c', .int .i64 t, .int .i64 x] w fun e w' => e = .returned (.bool true) ∧ Below w.heap.size w w' :=
  lawEqual_any l l2 A A' _ c _ c' t x w (by rwa [flatten_one] at hr) (by rwa [flatten_one] at hr') (by omega) (by omega)
end Go.Proofs.Ytjbbkhoonenfjaa

/- The walk of ReceiverWhole. -/
import Derived.Test.YthgapllfjllnfaaRcvV
import Derived.Test.YthgapllfjllnfaaRcvY
set_option linter.unusedVariables false
set_option linter.unusedSimpArgs false
namespace Go.Proofs.Ythgapllfjllnfaa
open Go.RowKit

theorem bytes_any (A : Option Addr) (n c m : Nat) (w : World) (hl : n ≤ c) (hc : c ≤ maxLen) (hm : m ≤ 1000000) :
    Calls Try.prog 16 #[.slice A n c, .int .i64 m] w fun e w' => e = .returned (.slice A (min n m) c) ∧ w = w' := by
  unfold maxLen at hc
  by_cases h : n ≤ m
  · have e : min n m = n := Nat.min_eq_left h
    have HE := Lib.hid e; clear e
    go_enter Try.func16, Try.ntmps16
    go_wp2
    go_ret
    exact ⟨by rw [HE.out]; rfl, rfl⟩
  · have e : min n m = m := Nat.min_eq_right (by omega)
    have HE := Lib.hid e; clear e
    have h' : m < n := by omega
    clear h
    go_enter Try.func16, Try.ntmps16
    go_wp2
    go_ret
    exact ⟨by rw [HE.out]; rfl, rfl⟩
theorem t15_ge (b p : Int) (h : validB b p = true) : 750 ≤ t15Z b p := by
  unfold t15Z
  rw [if_pos h]
  simp only [validB, Bool.and_eq_true, decide_eq_true_eq] at h
  have := h.1
  simp only [bauds, List.mem_cons, List.not_mem_nil, or_false] at this
  rcases this with rfl | rfl | rfl | rfl | rfl | rfl | rfl | rfl <;> decide
def gapAt (ys : List Int) (i : Nat) : Int := if i < ys.length then ys.getD i 0 % 200 * 3 else 0
def gsOf (xs ys : List Int) : List (Int × Int) := (List.range xs.length).map fun i => (xs.getD i 0, gapAt ys i)
theorem gap_bd (ys : List Int) (i : Nat) : 0 ≤ gapAt ys i ∧ gapAt ys i ≤ 597 := by
  unfold gapAt
  split <;> omega
theorem gs_take (xs ys : List Int) (k : Nat) (h : k < xs.length) : (gsOf xs ys).take (k + 1) = (gsOf xs ys).take k ++ [(xs.getD k 0, gapAt ys k)] := by
  rw [List.take_succ_eq_append_getElem (by simpa [gsOf] using h)]
  simp [gsOf]
theorem gs_vals (xs ys : List Int) : (gsOf xs ys).map (·.1) = xs := by
  refine List.ext_getElem (by simp [gsOf]) fun i h1 h2 => ?_
  simp [gsOf, List.getD, List.getElem?_eq_getElem h2]
set_option maxRecDepth 100000 in
set_option maxHeartbeats 16000000 in
theorem whole_any (k0 at0 : Int) (xs ys : List Int) (A Ag : Option Addr) (n c ng cg : Nat) (w : World) (hx : Rd w w.heap.size 1 A n (by8 xs)) (hlc : n ≤ c) (hcm : c ≤ maxLen) (hy : Rd w w.heap.size 1 Ag ng (by8 ys)) (hyr : ∀ y ∈ ys, 0 ≤ y ∧ y ≤ 255) :
    Calls Try.prog 4 #[.int .i64 k0, .slice A n c, .slice Ag ng cg, .int .i64 at0] w fun e w' => e = .returned (.bool true) ∧ Below w.heap.size w w' := by
  obtain ⟨j, hj, hm⟩ : ∃ j : Nat, j < 24 ∧ k0 % 24 = (j : Int) := ⟨(k0 % 24).toNat, by omega, by omega⟩
  have HM := Lib.hid (fun w => mod_eq k0 24 j (by omega) (by omega) hm w)
  have hlj : j < allL.length := by rw [all_length]; exact hj
  have hval := validAll j hlj
  obtain ⟨e0, e1⟩ := st_get0 allL j hlj
  obtain ⟨b, hb⟩ : ∃ b, (allL[j]).1 = b := ⟨_, rfl⟩
  obtain ⟨p, hp⟩ : ∃ p, (allL[j]).2 = p := ⟨_, rfl⟩
  rw [hb] at e0 hval
  rw [hp] at e1 hval
  have E0 := Lib.hid e0; have E1 := Lib.hid e1
  obtain ⟨a0, ha0⟩ : ∃ t, at0 % 1000000 = t := ⟨_, rfl⟩
  have HMa := Lib.hid (fun w => mod_eq at0 1000000 a0 (by omega) (by omega) ha0 w)
  have ha1 : 0 ≤ a0 := by omega
  have ha2 : a0 ≤ 1000000 := by omega
  have HBY := Lib.hid (fun W => bytes_any A n c 256 W hlc hcm (by omega))
  obtain ⟨N, hN⟩ : ∃ N, min n 256 = N := ⟨_, rfl⟩
  have hN2 : N ≤ 256 := by omega
  have hxN := hx.take (k := N) (by omega)
  rw [Nat.mul_one, show (by8 xs).take N = by8 (xs.take N) by simp] at hxN
  obtain ⟨zs, hzs⟩ : ∃ zs, xs.take N = zs := ⟨_, rfl⟩
  rw [hzs] at hxN
  have hzl : zs.length = N := by have := hxN.1; simpa using this
  have hyl : ys.length = ng := by have := hy.1; simpa using this
  rw [hN] at HBY
  have HX := Lib.hid hxN
  have HY := Lib.hid hy
  have HZL := Lib.hid hzl
  have HYL := Lib.hid hyl
  have HYR := Lib.hid hyr
  obtain ⟨ch, hc⟩ : ∃ z, charZ b p = z := ⟨_, rfl⟩
  obtain ⟨t15, h15⟩ : ∃ z, t15Z b p = z := ⟨_, rfl⟩
  obtain ⟨t35, hu⟩ : ∃ z, t35Z b p = z := ⟨_, rfl⟩
  have HC := Lib.hid (fun w => rchar_eq b p ch hc w)
  obtain ⟨hch1, hch2⟩ := char_bd b p
  have hlo := t35_lo b p hval
  have h15b := t15_lo b p
  rw [hc] at hch1 hch2
  rw [hu] at hlo
  rw [h15] at h15b
  clear hx hy hyr hlc hcm hN hzs hxN hzl hyl ha0 hm hb hp e0 e1
  have hv15 := t15_ge b p hval
  rw [h15] at hv15
  go_enter Try.func4, Try.ntmps4
  go_wp2_with fail
  refine (all_any _).mono ?_
  rintro e w1 ⟨A1, c0, rfl, hown, hb1⟩
  obtain ⟨g1, off, rfl, _, hcc⟩ := (Rd.of_own hown).2 (by omega)
  have c1 := hcc _ _ E0.out
  have c2 := hcc _ _ E1.out
  rw [← Nat.add_assoc] at c2
  clear hown hcc
  go_wp2_with fail
  refine (HM.out _).mono ?_
  rintro e w' ⟨rfl, rfl⟩
  go_upto_region 2 with fail
  obtain ⟨g0, hg⟩ : ∃ g, w1.heap.size = g := ⟨_, rfl⟩
  obtain ⟨W1, hW1⟩ : ∃ W1, w1.alloc (.cells #[.int .i64 b, .int .i64 p] 23) = W1 := ⟨_, rfl⟩
  have HSB := Lib.hid (show Box W1 g0 #[.int .i64 b, .int .i64 p] from hW1 ▸ hg ▸ Box.alloc_)
  have HBW := Lib.hid (show Below w.heap.size w W1 from hW1 ▸ ext_alloc hb1 _)
  try rw [hg]
  try rw [hW1]
  clear hW1 hg hb1 c1 c2
  go_wp2_with fail
  refine (HBY.out _).mono ?_
  rintro e w' ⟨rfl, rfl⟩
  by_cases hN0 : N = 0
  · have d0 : ((N : Int) == 0) = true := by simp; omega
    go_wp2_with fail
    refine (awake_any _).mono ?_
    rintro e y ⟨rfl, hby⟩
    have HFIN := Lib.hid (ext_trans HBW.out hby)
    clear hby
    go_wp2
    go_ret
    exact ⟨rfl, HFIN.out⟩
  · have d0 : ((N : Int) == 0) = false := by simp; omega
    go_wp2_with fail
    refine (HMa.out _).mono ?_
    rintro e w' ⟨rfl, rfl⟩
    go_wp2_with fail
    go_loopw [3, 10, 11] (fun av lv i x => ∃ (m : Nat) (Al : Option Addr) (cl : Nat), av = .int .i64 (lastW ch a0 ((gsOf zs ys).take m)) ∧ lv = .slice Al m cl ∧ i = .int .i64 m ∧ m ≤ N ∧ x.ownsRow W1.heap.size 42 3 (.slice Al m cl) m (evCells (evW ch a0 ((gsOf zs ys).take m))) ∧ Below W1.heap.size W1 x) (fun _ _ i _ => N - (intOf i).toNat)
    case atStart => exact ⟨0, none, 0, by simp [lastW], rfl, rfl, by omega, ⟨rfl, .inl ⟨rfl, rfl⟩⟩, Below.refl _ _⟩
    case round =>
      obtain ⟨m, Al, cl, rfl, rfl, rfl, hmN, hown, hbr⟩ := hrel
      obtain ⟨am, ham⟩ : ∃ am, lastW ch a0 ((gsOf zs ys).take m) = am := ⟨_, rfl⟩
      rw [ham]
      have HAM := Lib.hid ham
      have HOW := Lib.hid hown
      have HBR := Lib.hid hbr
      have HS2 := Lib.hid (HSB.out.below hbr)
      clear hown hbr ham
      obtain ⟨qs, zs_, ls⟩ := HS2.out
      by_cases hlt : m < N
      · have hzm : m < zs.length := by have := HZL.out; omega
        have hbd := lastW_bd ch a0 ((gsOf zs ys).take m) hch1 (by omega) (fun x hx => by obtain ⟨i, _, rfl⟩ := List.mem_map.1 (List.mem_of_mem_take hx); exact gap_bd ys i)
        rw [HAM.out] at hbd
        have hlm : ((gsOf zs ys).take m).length ≤ 256 := by simp; omega
        have hb1 : 0 ≤ am := by omega
        have hb2 : am ≤ 40000000 := by omega
        have HTK := Lib.hid (gs_take zs ys m hzm)
        obtain ⟨bz, oz, hAz, hbz, hcz⟩ := HX.out.2 (by omega)
        obtain ⟨z, hz⟩ : ∃ z, zs.getD m 0 = z := ⟨_, rfl⟩
        have cz := hcz m (.int .u8 z) (by rw [← hz]; simp [List.getD, List.getElem?_eq_getElem hzm])
        rw [hz] at HTK
        subst hAz
        have k1 : IntKind.i64.wrap (am + ch) = am + ch := IntWalk.i64_in _ ⟨by omega, by omega⟩
        clear hbd hlm hcz hz
        by_cases hg : m < ng
        · have d1 : decide ((m : Int) < (ng : Int)) = true := by simp; omega
          have d1n : decide (m < ng) = true := by simpa using hg
          have hym : m < ys.length := by have := HYL.out; omega
          obtain ⟨by_, oy, hAy, hby, hcy⟩ := HY.out.2 (by omega)
          obtain ⟨y, hyv⟩ : ∃ y, ys.getD m 0 = y := ⟨_, rfl⟩
          have cy := hcy m (.int .u8 y) (by rw [← hyv]; simp [List.getD, List.getElem?_eq_getElem hym])
          have hy0 : 0 ≤ y ∧ y ≤ 255 := by rw [← hyv, List.getD, List.getElem?_eq_getElem hym]; exact HYR.out _ (List.getElem_mem hym)
          have ky : IntKind.i64.wrap y = y := IntWalk.i64_in _ ⟨by omega, by omega⟩
          have HGP := Lib.hid (show gapAt ys m = y % 200 * 3 by rw [gapAt, if_pos hym, hyv])
          subst hAy
          have k2 : y.tmod 200 = y % 200 := Int.tmod_eq_emod_of_nonneg hy0.1
          have k3 : IntKind.i64.wrap (y % 200) = y % 200 := IntWalk.i64_in _ ⟨by omega, by omega⟩
          have k4 : IntKind.i64.wrap (y % 200 * 3) = y % 200 * 3 := IntWalk.i64_in _ ⟨by omega, by omega⟩
          have k5 : IntKind.i64.wrap (am + ch + y % 200 * 3) = am + ch + y % 200 * 3 := IntWalk.i64_in _ ⟨by omega, by omega⟩
          clear hcy hyv
          go_wp2_with fail
          refine (HC.out _).mono ?_
          rintro e x2 ⟨rfl, hb2⟩
          have HOW2 := Lib.hid (own_below HOW.out hb2 (Nat.le_refl _))
          have HB2 := Lib.hid (ext_trans HBR.out hb2)
          have hB2w := ext_trans HBW.out HB2.out
          have cx : x2.cell? ⟨bz, oz + m, none⟩ = some (.int .u8 z) := (hB2w.cell (p := ⟨bz, oz + m, none⟩) hbz).trans cz
          have cy2 : x2.cell? ⟨by_, oy + m, none⟩ = some (.int .u8 y) := (hB2w.cell (p := ⟨by_, oy + m, none⟩) hby).trans cy
          clear cy
          clear hb2 hB2w cz
          have hsz := HB2.out.size
          go_wp2_with (at_builtin; refine wpList_appN (.tmp 50) (.tmp 57) 24 W1.heap.size 42 _ 3 24 _ m (evCells (evW ch a0 ((gsOf zs ys).take m))) (x2.heap.size + 1) (some ⟨x2.heap.size, 0, none⟩) 1 1 _ Try.underlying24 evInfo rfl (by decide) rfl rfl rfl rfl (HOW2.out.alloc _) (Rd.lit rfl (Nat.lt_succ_self _)) (one_ev _ _ _) (by omega) (by omega) (by simp; omega) ?_; intro vo' w6 hown6 hg6 hn6 hb6)
          obtain ⟨A3, c3, hv3, _, _⟩ := own_form hown6
          subst hv3
          have hbw6 : Below W1.heap.size W1 w6 := (HB2.out.alloc hsz (.cells #[.int .i64 (am + ch + y % 200 * 3), .int .u8 z, .int .i64 0] 42)).trans hb6
          have HW6 := Lib.hid hbw6
          have HO6 := Lib.hid (show w6.ownsRow W1.heap.size 42 3 (.slice A3 (m + 1) c3) (m + 1) (evCells (evW ch a0 ((gsOf zs ys).take (m + 1)))) by rw [HTK.out, evW_snoc, evCells_snoc, HAM.out, HGP.out]; simpa using hown6)
          have HAT := Lib.hid (show lastW ch a0 ((gsOf zs ys).take (m + 1)) = (am + ch + y % 200 * 3) by rw [HTK.out, lastW_snoc, HAM.out, HGP.out]; try simp)
          clear hown6 hg6 hn6 hb6 hbw6
          go_roundw
          case rel => exact ⟨m + 1, A3, c3, by rw [HAT.out], rfl, by go_num, by omega, HO6.out, HW6.out⟩
          case measure => simp [intOf]; omega
        · have d1 : decide ((m : Int) < (ng : Int)) = false := by simp; omega
          have HGP := Lib.hid (show gapAt ys m = 0 by rw [gapAt, if_neg (by rw [HYL.out]; exact hg)])
          have d1n : decide (m < ng) = false := by simpa using hg
          clear hg
          go_wp2_with fail
          refine (HC.out _).mono ?_
          rintro e x2 ⟨rfl, hb2⟩
          have HOW2 := Lib.hid (own_below HOW.out hb2 (Nat.le_refl _))
          have HB2 := Lib.hid (ext_trans HBR.out hb2)
          have hB2w := ext_trans HBW.out HB2.out
          have cx : x2.cell? ⟨bz, oz + m, none⟩ = some (.int .u8 z) := (hB2w.cell (p := ⟨bz, oz + m, none⟩) hbz).trans cz
          clear hb2 hB2w cz
          have hsz := HB2.out.size
          go_wp2_with (at_builtin; refine wpList_appN (.tmp 50) (.tmp 57) 24 W1.heap.size 42 _ 3 24 _ m (evCells (evW ch a0 ((gsOf zs ys).take m))) (x2.heap.size + 1) (some ⟨x2.heap.size, 0, none⟩) 1 1 _ Try.underlying24 evInfo rfl (by decide) rfl rfl rfl rfl (HOW2.out.alloc _) (Rd.lit rfl (Nat.lt_succ_self _)) (one_ev _ _ _) (by omega) (by omega) (by simp; omega) ?_; intro vo' w6 hown6 hg6 hn6 hb6)
          obtain ⟨A3, c3, hv3, _, _⟩ := own_form hown6
          subst hv3
          have hbw6 : Below W1.heap.size W1 w6 := (HB2.out.alloc hsz (.cells #[.int .i64 (am + ch), .int .u8 z, .int .i64 0] 42)).trans hb6
          have HW6 := Lib.hid hbw6
          have HO6 := Lib.hid (show w6.ownsRow W1.heap.size 42 3 (.slice A3 (m + 1) c3) (m + 1) (evCells (evW ch a0 ((gsOf zs ys).take (m + 1)))) by rw [HTK.out, evW_snoc, evCells_snoc, HAM.out, HGP.out]; simpa using hown6)
          have HAT := Lib.hid (show lastW ch a0 ((gsOf zs ys).take (m + 1)) = (am + ch) by rw [HTK.out, lastW_snoc, HAM.out, HGP.out]; try simp)
          clear hown6 hg6 hn6 hb6 hbw6
          go_roundw
          case rel => exact ⟨m + 1, A3, c3, by rw [HAT.out], rfl, by go_num, by omega, HO6.out, HW6.out⟩
          case measure => simp [intOf]; omega
      · obtain rfl : m = N := by omega
        have hgl : (gsOf zs ys).take m = gsOf zs ys := List.take_of_length_le (by rw [show (gsOf zs ys).length = zs.length by simp [gsOf], HZL.out]; exact Nat.le_refl _)
        rw [hgl] at HAM HOW
        obtain ⟨y0, gt, hyt⟩ : ∃ y0 gt, gsOf zs ys = y0 :: gt := by
          rcases h : gsOf zs ys with _ | ⟨a, t⟩
          · have h2 := congrArg List.length h; rw [show (gsOf zs ys).length = zs.length by simp [gsOf], HZL.out] at h2; simp at h2; omega
          · exact ⟨a, t, rfl⟩
        have hgb : ∀ x ∈ gsOf zs ys, 0 ≤ x.2 ∧ x.2 ≤ 597 := fun x hx => by obtain ⟨i, _, rfl⟩ := List.mem_map.1 hx; exact gap_bd ys i
        have hglen : (gsOf zs ys).length = m := by simp [gsOf, HZL.out]
        have hfr := frames_whole ch t15 t35 a0 y0 gt (by rw [← hyt]; exact hgb) (by omega) (by omega) (by rw [← hyt, hglen]; exact hN2)
        rw [← hyt, gs_vals, HAM.out] at hfr
        have hin := in_whole ch a0 (gsOf zs ys) hch1 (by omega) ha1 hgb (by rw [hglen]; omega)
        have hor := ordE_mono a0 0 _ (ord_whole ch a0 (gsOf zs ys) hch1 hgb) ha1
        have HSP := Lib.hid (fun (W : World) (A : Option Addr) (c B : Nat) (hr : Rd W B 3 A m (evCells (evW ch a0 (gsOf zs ys)))) (hB : B ≤ W.heap.size) => split_ok b p ch t15 t35 hval hc h15 hu (evW ch a0 (gsOf zs ys)) A m c B W hr hB (by omega))
        have hev0 : evW ch a0 (gsOf zs ys) = ⟨a0 + ch + y0.2, y0.1, 0⟩ :: evW ch (a0 + ch + y0.2) gt := by rw [hyt]; rfl
        have HEV := Lib.hid hev0
        have HFR := Lib.hid hfr
        have HIN := Lib.hid hin
        have HOR := Lib.hid hor
        obtain ⟨f0, hf0⟩ : ∃ f0, a0 + ch + y0.2 = f0 := ⟨_, rfl⟩
        rw [hf0] at HEV HFR
        clear hgl hyt hgb hglen hfr hin hor hev0 hf0
        go_wp2_with fail
        refine (HSP.out _ _ _ _ (Rd.of_own HOW.out) (Nat.le_refl _)).mono ?_
        rintro e x3 ⟨vo, E, rfl, hok⟩
        obtain ⟨rfl, hb3, l2, A2, c2, rfl, hr2, hf2, hl2⟩ := hok.get HIN.out HOR.out HFR.out
        have HB3 := Lib.hid (ext_trans HBW.out (ext_trans HBR.out hb3))
        obtain ⟨f, rfl⟩ : ∃ f, l2 = [f] := by
          rcases l2 with _ | ⟨f, _ | ⟨g, t⟩⟩
          · cases hl2
          · exact ⟨f, rfl⟩
          · simp at hl2
        obtain ⟨fA, fn, fc, fxs, ffi, fla, ffl⟩ := f
        simp only [fz, List.map_cons, List.map_nil, List.cons.injEq, and_true, Fz.mk.injEq] at hl2
        obtain ⟨rfl, rfl, rfl, rfl⟩ := hl2
        obtain ⟨b3, off3, rfl, hbl3, hc3⟩ := hr2.2 (by simp)
        have c0 : x3.cell? ⟨b3, off3, none⟩ = some (.slice fA fn fc) := hc3 0 (.slice fA fn fc) (by simp [frCells])
        have c1 : x3.cell? ⟨b3, off3 + 1, none⟩ = some (.int .i64 ffi) := hc3 1 (.int .i64 ffi) (by simp [frCells])
        have c2 : x3.cell? ⟨b3, off3 + 2, none⟩ = some (.int .i64 fla) := hc3 2 (.int .i64 fla) (by simp [frCells])
        have c3 : x3.cell? ⟨b3, off3 + 3, none⟩ = some (.int .i64 0) := hc3 3 (.int .i64 0) (by simp [frCells])
        have hfr : Rd x3 x3.heap.size 1 fA fn (by8 fxs) := (hf2 _ (List.mem_singleton.2 rfl)).1
        have hxx : Rd x3 w.heap.size 1 A m (by8 fxs) := HX.out.below HB3.out (Nat.le_refl _)
        obtain ⟨be, oe, hAe, hbe, hce⟩ := (Rd.of_own HOW.out).2 (by omega)
        subst hAe
        have ce0 := hce 0 (.int .i64 ffi) (by rw [HEV.out]; simp [evCells])
        have ce : x3.cell? ⟨be, oe, none⟩ = some (.int .i64 ffi) := (hb3.cell (p := ⟨be, oe, none⟩) hbe).trans ce0
        obtain ⟨st, hst⟩ : ∃ st, strOfNums fxs = st := ⟨_, rfl⟩
        have hFR := Lib.hid (fun (W : World) (hb : Below x3.heap.size x3 W) => show W.cell? ⟨b3, off3, none⟩ = some (.slice fA fn fc) ∧ W.cell? ⟨b3, off3 + 1, none⟩ = some (.int .i64 ffi) ∧ W.cell? ⟨b3, off3 + 2, none⟩ = some (.int .i64 fla) ∧ W.cell? ⟨b3, off3 + 3, none⟩ = some (.int .i64 0) ∧ W.cell? ⟨be, oe, none⟩ = some (.int .i64 ffi) ∧ (convert 38 9 (.slice fA fn fc)).run Try.prog W = .ok (.string st) W ∧ (convert 38 9 (.slice A m c)).run Try.prog W = .ok (.string st) W from
          ⟨(hb.cell (p := ⟨b3, off3, none⟩) hbl3).trans c0, (hb.cell (p := ⟨b3, off3 + 1, none⟩) hbl3).trans c1, (hb.cell (p := ⟨b3, off3 + 2, none⟩) hbl3).trans c2, (hb.cell (p := ⟨b3, off3 + 3, none⟩) hbl3).trans c3, (hb.cell (p := ⟨be, oe, none⟩) (Nat.lt_of_lt_of_le hbe hb3.size)).trans ce, by rw [← hst]; exact (hfr.below hb (Nat.le_refl _)).str, by rw [← hst]; exact (hxx.below hb HB3.out.size).str⟩)
        have HG := Lib.hid (fun (W : World) (h : Below x3.heap.size x3 W) => ext_trans HB3.out h)
        clear hok hr2 hf2 hc3 c0 c1 c2 c3 hfr hxx hce ce0 ce hst hb3 qs zs_ ls
        go_upto_region 15 with fail
        have hbc0 : Below x3.heap.size x3 x3.drew := below_drew (Below.refl _ _)
        have hS0 := hFR.out _ hbc0
        have hm0 : 0 < m := by omega
        refine rgs_start (fun w' => w'.cell? ⟨b3, off3, none⟩ = some (.slice fA fn fc) ∧ w'.cell? ⟨b3, off3 + 1, none⟩ = some (.int .i64 ffi) ∧ w'.cell? ⟨b3, off3 + 2, none⟩ = some (.int .i64 fla) ∧ w'.cell? ⟨b3, off3 + 3, none⟩ = some (.int .i64 0) ∧ w'.cell? ⟨be, oe, none⟩ = some (.int .i64 ffi) ∧ (convert 38 9 (.slice fA fn fc)).run Try.prog w' = .ok (.string st) w' ∧ (convert 38 9 (.slice A m c)).run Try.prog w' = .ok (.string st) w') (by kernel_rfl) ?_
        refine rgs_c 0 (by kernel_rfl) rfl (by rfl) (fun K hK => ?_)
        go_simp
        refine (awake_any _).mono ?_
        rintro e x5 ⟨rfl, hb5⟩
        have hbc5 := ext_trans hbc0 hb5
        have hS5 := hFR.out _ hbc5
        refine hK _ _ hS5 ?_
        clear hK K
        try simp only [Act.put, List.setIfInBounds_toArray, List.set_cons_zero, List.set_cons_succ]
        refine rgs_t (v := ?_) (some 66) 1 (by kernel_rfl) rfl rfl (by assumption) (.inl ⟨by rfl, fun w' hw => ?_⟩) ?_
        rotate_left
        · obtain ⟨q1, q2, q3⟩ := hw; go_simp <;> with_reducible rfl
        try simp only [Act.put, List.setIfInBounds_toArray, List.set_cons_zero, List.set_cons_succ]
        refine rgs_t (v := ?_) (some 67) 2 (by kernel_rfl) rfl rfl (by assumption) (.inl ⟨by rfl, fun w' hw => ?_⟩) ?_
        rotate_left
        · obtain ⟨q1, q2, q3⟩ := hw; go_simp <;> with_reducible rfl
        try simp only [Act.put, List.setIfInBounds_toArray, List.set_cons_zero, List.set_cons_succ]
        refine rgs_t (v := ?_) (some 68) 3 (by kernel_rfl) rfl rfl (by assumption) (.inl ⟨by rfl, fun w' hw => ?_⟩) ?_
        rotate_left
        · obtain ⟨q1, q2, q3⟩ := hw; go_simp <;> with_reducible rfl
        try simp only [Act.put, List.setIfInBounds_toArray, List.set_cons_zero, List.set_cons_succ]
        refine rgs_t (v := ?_) (some 69) 4 (by kernel_rfl) rfl rfl (by assumption) (.inl ⟨by rfl, fun w' hw => ?_⟩) ?_
        rotate_left
        · obtain ⟨q1, q2, q3⟩ := hw; go_simp <;> with_reducible rfl
        try simp only [Act.put, List.setIfInBounds_toArray, List.set_cons_zero, List.set_cons_succ]
        refine rgs_t (v := ?_) (some 70) 5 (by kernel_rfl) rfl rfl (by assumption) (.inl ⟨by rfl, fun w' hw => ?_⟩) ?_
        rotate_left
        · obtain ⟨q1, q2, q3⟩ := hw; go_simp <;> with_reducible rfl
        try simp only [Act.put, List.setIfInBounds_toArray, List.set_cons_zero, List.set_cons_succ]
        refine rgs_t (v := ?_) (some 71) 6 (by kernel_rfl) rfl rfl (by assumption) (.inl ⟨by rfl, fun w' hw => ?_⟩) ?_
        rotate_left
        · obtain ⟨q1, q2, q3⟩ := hw; go_simp <;> with_reducible rfl
        try simp only [Act.put, List.setIfInBounds_toArray, List.set_cons_zero, List.set_cons_succ]
        refine rgs_t (v := ?_) (some 72) 7 (by kernel_rfl) rfl rfl (by assumption) (.inl ⟨by rfl, fun w' hw => ?_⟩) ?_
        rotate_left
        · obtain ⟨q1, q2, q3⟩ := hw; go_simp <;> with_reducible rfl
        try simp only [Act.put, List.setIfInBounds_toArray, List.set_cons_zero, List.set_cons_succ]
        refine rgs_t (v := ?_) (some 73) 8 (by kernel_rfl) rfl rfl (by assumption) (.inl ⟨by rfl, fun w' hw => ?_⟩) ?_
        rotate_left
        · obtain ⟨q1, q2, q3⟩ := hw; go_simp <;> with_reducible rfl
        try simp only [Act.put, List.setIfInBounds_toArray, List.set_cons_zero, List.set_cons_succ]
        refine rgs_t (v := ?_) (some 74) 9 (by kernel_rfl) rfl rfl (by assumption) (.inl ⟨by rfl, fun w' hw => ?_⟩) ?_
        rotate_left
        · obtain ⟨q1, q2, q3⟩ := hw; go_simp <;> with_reducible rfl
        try simp only [Act.put, List.setIfInBounds_toArray, List.set_cons_zero, List.set_cons_succ]
        refine rgs_t (v := ?_) (some 75) 10 (by kernel_rfl) rfl rfl (by assumption) (.inl ⟨by rfl, fun w' hw => ?_⟩) ?_
        rotate_left
        · obtain ⟨q1, q2, q3⟩ := hw; go_simp <;> with_reducible rfl
        try simp only [Act.put, List.setIfInBounds_toArray, List.set_cons_zero, List.set_cons_succ]
        refine rgs_t (v := ?_) (some 76) 11 (by kernel_rfl) rfl rfl (by assumption) (.inl ⟨by rfl, fun w' hw => ?_⟩) ?_
        rotate_left
        · obtain ⟨q1, q2, q3⟩ := hw; go_simp <;> with_reducible rfl
        try simp only [Act.put, List.setIfInBounds_toArray, List.set_cons_zero, List.set_cons_succ]
        refine rgs_t (v := ?_) (some 77) 12 (by kernel_rfl) rfl rfl (by assumption) (.inl ⟨by rfl, fun w' hw => ?_⟩) ?_
        rotate_left
        · obtain ⟨q1, q2, q3⟩ := hw; go_simp <;> with_reducible rfl
        try simp only [Act.put, List.setIfInBounds_toArray, List.set_cons_zero, List.set_cons_succ]
        refine rgs_t (v := ?_) (some 78) 13 (by kernel_rfl) rfl rfl (by assumption) (.inl ⟨by rfl, fun w' hw => ?_⟩) ?_
        rotate_left
        · obtain ⟨q1, q2, q3⟩ := hw; go_simp <;> with_reducible rfl
        try simp only [Act.put, List.setIfInBounds_toArray, List.set_cons_zero, List.set_cons_succ]
        refine rgs_t (v := ?_) (some 79) 14 (by kernel_rfl) rfl rfl (by assumption) (.inl ⟨by rfl, fun w' hw => ?_⟩) ?_
        rotate_left
        · obtain ⟨q1, q2, q3⟩ := hw; go_simp <;> with_reducible rfl
        try simp only [Act.put, List.setIfInBounds_toArray, List.set_cons_zero, List.set_cons_succ]
        refine rgs_t (v := ?_) (some 80) 15 (by kernel_rfl) rfl rfl (by assumption) (.inl ⟨by rfl, fun w' hw => ?_⟩) ?_
        rotate_left
        · obtain ⟨q1, q2, q3⟩ := hw; go_simp <;> with_reducible rfl
        try simp only [Act.put, List.setIfInBounds_toArray, List.set_cons_zero, List.set_cons_succ]
        refine rgs_t (v := ?_) (some 81) 16 (by kernel_rfl) rfl rfl (by assumption) (.inl ⟨by rfl, fun w' hw => ?_⟩) ?_
        rotate_left
        · obtain ⟨q1, q2, q3⟩ := hw; go_simp <;> with_reducible rfl
        try simp only [Act.put, List.setIfInBounds_toArray, List.set_cons_zero, List.set_cons_succ]
        refine rgs_t (v := ?_) (some 82) 17 (by kernel_rfl) rfl rfl (by assumption) (.inl ⟨by rfl, fun w' hw => ?_⟩) ?_
        rotate_left
        · obtain ⟨q1, q2, q3⟩ := hw; go_simp <;> with_reducible rfl
        try simp only [Act.put, List.setIfInBounds_toArray, List.set_cons_zero, List.set_cons_succ]
        refine rgs_t (v := ?_) (some 83) 18 (by kernel_rfl) rfl rfl (by assumption) (.inl ⟨by rfl, fun w' hw => ?_⟩) ?_
        rotate_left
        · obtain ⟨q1, q2, q3⟩ := hw; go_simp <;> with_reducible rfl
        try simp only [Act.put, List.setIfInBounds_toArray, List.set_cons_zero, List.set_cons_succ]
        refine rgs_t (v := ?_) (some 84) 19 (by kernel_rfl) rfl rfl (by assumption) (.inl ⟨by rfl, fun w' hw => ?_⟩) ?_
        rotate_left
        · obtain ⟨q1, q2, q3⟩ := hw; go_simp <;> with_reducible rfl
        try simp only [Act.put, List.setIfInBounds_toArray, List.set_cons_zero, List.set_cons_succ]
        refine rgs_t (v := ?_) (some 85) 20 (by kernel_rfl) rfl rfl (by assumption) (.inl ⟨by rfl, fun w' hw => ?_⟩) ?_
        rotate_left
        · obtain ⟨q1, q2, q3⟩ := hw; go_simp <;> with_reducible rfl
        try simp only [Act.put, List.setIfInBounds_toArray, List.set_cons_zero, List.set_cons_succ]
        refine rgs_t (v := ?_) (some 86) 21 (by kernel_rfl) rfl rfl (by assumption) (.inl ⟨by rfl, fun w' hw => ?_⟩) ?_
        rotate_left
        · obtain ⟨q1, q2, q3⟩ := hw; go_simp <;> with_reducible rfl
        try simp only [Act.put, List.setIfInBounds_toArray, List.set_cons_zero, List.set_cons_succ]
        refine rgs_t (v := ?_) (some 87) 22 (by kernel_rfl) rfl rfl (by assumption) (.inl ⟨by rfl, fun w' hw => ?_⟩) ?_
        rotate_left
        · obtain ⟨q1, q2, q3⟩ := hw; go_simp <;> with_reducible rfl
        try simp only [Act.put, List.setIfInBounds_toArray, List.set_cons_zero, List.set_cons_succ]
        refine rgs_t (v := ?_) (some 88) 23 (by kernel_rfl) rfl rfl (by assumption) (.inl ⟨by rfl, fun w' hw => ?_⟩) ?_
        rotate_left
        · obtain ⟨q1, q2, q3⟩ := hw; go_simp <;> with_reducible rfl
        try simp only [Act.put, List.setIfInBounds_toArray, List.set_cons_zero, List.set_cons_succ]
        refine rgs_t (v := ?_) (some 89) 24 (by kernel_rfl) rfl rfl (by assumption) (.inl ⟨by rfl, fun w' hw => ?_⟩) ?_
        rotate_left
        · obtain ⟨q1, q2, q3⟩ := hw; go_simp <;> with_reducible rfl
        try simp only [Act.put, List.setIfInBounds_toArray, List.set_cons_zero, List.set_cons_succ]
        refine rgs_t (v := ?_) (some 90) 25 (by kernel_rfl) rfl rfl (by assumption) (.inl ⟨by rfl, fun w' hw => ?_⟩) ?_
        rotate_left
        · obtain ⟨q1, q2, q3⟩ := hw; go_simp <;> with_reducible rfl
        try simp only [Act.put, List.setIfInBounds_toArray, List.set_cons_zero, List.set_cons_succ]
        refine rgs_t (v := ?_) (some 91) 26 (by kernel_rfl) rfl rfl (by assumption) (.inl ⟨by rfl, fun w' hw => ?_⟩) ?_
        rotate_left
        · obtain ⟨q1, q2, q3⟩ := hw; go_simp <;> with_reducible rfl
        try simp only [Act.put, List.setIfInBounds_toArray, List.set_cons_zero, List.set_cons_succ]
        refine rgs_t (v := ?_) (some 92) 27 (by kernel_rfl) rfl rfl (by assumption) (.inl ⟨by rfl, fun w' hw => ?_⟩) ?_
        rotate_left
        · obtain ⟨q1, q2, q3⟩ := hw; go_simp <;> with_reducible rfl
        try simp only [Act.put, List.setIfInBounds_toArray, List.set_cons_zero, List.set_cons_succ]
        refine rgs_t (v := ?_) (some 93) 28 (by kernel_rfl) rfl rfl (by assumption) (.inl ⟨by rfl, fun w' hw => ?_⟩) ?_
        rotate_left
        · obtain ⟨q1, q2, q3⟩ := hw; go_simp <;> with_reducible rfl
        try simp only [Act.put, List.setIfInBounds_toArray, List.set_cons_zero, List.set_cons_succ]
        refine rgs_t (v := ?_) (some 94) 29 (by kernel_rfl) rfl rfl (by assumption) (.inl ⟨by rfl, fun w' hw => ?_⟩) ?_
        rotate_left
        · obtain ⟨q1, q2, q3⟩ := hw; go_simp <;> with_reducible rfl
        try simp only [Act.put, List.setIfInBounds_toArray, List.set_cons_zero, List.set_cons_succ]
        refine rgs_t (v := ?_) (some 95) 30 (by kernel_rfl) rfl rfl (by assumption) (.inl ⟨by rfl, fun w' hw => ?_⟩) ?_
        rotate_left
        · obtain ⟨q1, q2, q3⟩ := hw; go_simp <;> with_reducible rfl
        try simp only [Act.put, List.setIfInBounds_toArray, List.set_cons_zero, List.set_cons_succ]
        refine rgs_t (v := ?_) (some 96) 31 (by kernel_rfl) rfl rfl (by assumption) (.inl ⟨by rfl, fun w' hw => ?_⟩) ?_
        rotate_left
        · obtain ⟨q1, q2, q3⟩ := hw; go_simp <;> with_reducible rfl
        try simp only [Act.put, List.setIfInBounds_toArray, List.set_cons_zero, List.set_cons_succ]
        refine rgs_t (v := ?_) (some 97) 32 (by kernel_rfl) rfl rfl (by assumption) (.inl ⟨by rfl, fun w' hw => ?_⟩) ?_
        rotate_left
        · obtain ⟨q1, q2, q3⟩ := hw; go_simp <;> with_reducible rfl
        try simp only [Act.put, List.setIfInBounds_toArray, List.set_cons_zero, List.set_cons_succ]
        refine rgs_t (v := ?_) (some 98) 33 (by kernel_rfl) rfl rfl (by assumption) (.inl ⟨by rfl, fun w' hw => ?_⟩) ?_
        rotate_left
        · obtain ⟨q1, q2, q3⟩ := hw; go_simp <;> with_reducible rfl
        try simp only [Act.put, List.setIfInBounds_toArray, List.set_cons_zero, List.set_cons_succ]
        refine rgs_t (v := ?_) (some 99) 34 (by kernel_rfl) rfl rfl (by assumption) (.inl ⟨by rfl, fun w' hw => ?_⟩) ?_
        rotate_left
        · obtain ⟨q1, q2, q3⟩ := hw; go_simp <;> with_reducible rfl
        try simp only [Act.put, List.setIfInBounds_toArray, List.set_cons_zero, List.set_cons_succ]
        refine rgs_t (v := ?_) (some 100) 35 (by kernel_rfl) rfl rfl (by assumption) (.inl ⟨by rfl, fun w' hw => ?_⟩) ?_
        rotate_left
        · obtain ⟨q1, q2, q3⟩ := hw; go_simp <;> with_reducible rfl
        try simp only [Act.put, List.setIfInBounds_toArray, List.set_cons_zero, List.set_cons_succ]
        refine rgs_t (v := ?_) (some 101) 36 (by kernel_rfl) rfl rfl (by assumption) (.inl ⟨by rfl, fun w' hw => ?_⟩) ?_
        rotate_left
        · obtain ⟨q1, q2, q3⟩ := hw; go_simp <;> with_reducible rfl
        try simp only [Act.put, List.setIfInBounds_toArray, List.set_cons_zero, List.set_cons_succ]
        refine rgs_t (v := ?_) (some 102) 37 (by kernel_rfl) rfl rfl (by assumption) (.inl ⟨by rfl, fun w' hw => ?_⟩) ?_
        rotate_left
        · obtain ⟨q1, q2, q3⟩ := hw; go_simp <;> with_reducible rfl
        try simp only [Act.put, List.setIfInBounds_toArray, List.set_cons_zero, List.set_cons_succ]
        refine rgs_t (v := ?_) (some 103) 38 (by kernel_rfl) rfl rfl (by assumption) (.inl ⟨by rfl, fun w' hw => ?_⟩) ?_
        rotate_left
        · obtain ⟨q1, q2, q3⟩ := hw; go_simp <;> with_reducible rfl
        try simp only [Act.put, List.setIfInBounds_toArray, List.set_cons_zero, List.set_cons_succ]
        refine rgs_t (v := ?_) (some 104) 39 (by kernel_rfl) rfl rfl (by assumption) (.inl ⟨by rfl, fun w' hw => ?_⟩) ?_
        rotate_left
        · obtain ⟨q1, q2, q3⟩ := hw; go_simp <;> with_reducible rfl
        try simp only [Act.put, List.setIfInBounds_toArray, List.set_cons_zero, List.set_cons_succ]
        refine rgs_t (v := ?_) (some 105) 40 (by kernel_rfl) rfl rfl (by assumption) (.inl ⟨by rfl, fun w' hw => ?_⟩) ?_
        rotate_left
        · obtain ⟨q1, q2, q3⟩ := hw; go_simp <;> with_reducible rfl
        try simp only [Act.put, List.setIfInBounds_toArray, List.set_cons_zero, List.set_cons_succ]
        refine rgs_t (v := ?_) (some 106) 41 (by kernel_rfl) rfl rfl (by assumption) (.inl ⟨by rfl, fun w' hw => ?_⟩) ?_
        rotate_left
        · obtain ⟨q1, q2, q3⟩ := hw; go_simp <;> with_reducible rfl
        try simp only [Act.put, List.setIfInBounds_toArray, List.set_cons_zero, List.set_cons_succ]
        refine rgs_t (v := ?_) (some 107) 42 (by kernel_rfl) rfl rfl (by assumption) (.inl ⟨by rfl, fun w' hw => ?_⟩) ?_
        rotate_left
        · obtain ⟨q1, q2, q3⟩ := hw; go_simp <;> with_reducible rfl
        try simp only [Act.put, List.setIfInBounds_toArray, List.set_cons_zero, List.set_cons_succ]
        refine rgs_t (v := ?_) (some 108) 43 (by kernel_rfl) rfl rfl (by assumption) (.inl ⟨by rfl, fun w' hw => ?_⟩) ?_
        rotate_left
        · obtain ⟨q1, q2, q3⟩ := hw; go_simp <;> with_reducible rfl
        try simp only [Act.put, List.setIfInBounds_toArray, List.set_cons_zero, List.set_cons_succ]
        refine rgs_t (v := ?_) (some 109) 44 (by kernel_rfl) rfl rfl (by assumption) (.inl ⟨by rfl, fun w' hw => ?_⟩) ?_
        rotate_left
        · obtain ⟨q1, q2, q3⟩ := hw; go_simp <;> with_reducible rfl
        try simp only [Act.put, List.setIfInBounds_toArray, List.set_cons_zero, List.set_cons_succ]
        refine rgs_t (v := ?_) (some 110) 45 (by kernel_rfl) rfl rfl (by assumption) (.inl ⟨by rfl, fun w' hw => ?_⟩) ?_
        rotate_left
        · obtain ⟨q1, q2, q3⟩ := hw; go_simp <;> with_reducible rfl
        try simp only [Act.put, List.setIfInBounds_toArray, List.set_cons_zero, List.set_cons_succ]
        refine rgs_t (v := ?_) (some 8) 46 (by kernel_rfl) rfl rfl (by assumption) (.inl ⟨by rfl, fun w' hw => ?_⟩) ?_
        rotate_left
        · obtain ⟨q1, q2, q3⟩ := hw; go_simp <;> with_reducible rfl
        try simp only [Act.put, List.setIfInBounds_toArray, List.set_cons_zero, List.set_cons_succ]
        refine rgs_d (by kernel_rfl) ?_
        go_wp2
        go_ret
        exact ⟨rfl, HG.out _ hbc5⟩
end Go.Proofs.Ythgapllfjllnfaa

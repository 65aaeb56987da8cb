/- The walk of ReceiverLong. -/
import Derived.Test.YthgapllfjllnfaaRcvL
import Derived.Test.YthgapllfjllnfaaRcvX
set_option linter.unusedVariables false
set_option linter.unusedSimpArgs false
namespace Go.Proofs.Ythgapllfjllnfaa
open Go.RowKit

theorem evInfo : (Try.prog.info? 42).map (fun i => (i.zero, i.size, i.bytes)) = some (some (.agg #[.int .i64 0, .int .u8 0, .int .i64 0]), 3, 24) := by kernel_rfl
theorem one_ev (a b c : Int) : ∀ u ∈ [Value.int .i64 a, .int .u8 b, .int .i64 c], u.oneCell' = true := by
  intro u hu
  simp only [List.mem_cons, List.not_mem_nil, or_false] at hu
  rcases hu with rfl | rfl | rfl <;> rfl
theorem evCells_snoc (l : List Ev) (e : Ev) : evCells (l ++ [e]) = evCells l ++ [.int .i64 e.at_, .int .u8 e.val, .int .i64 e.fl] := by simp [evCells]
theorem t15_lo (b p : Int) : 0 ≤ t15Z b p := by
  unfold t15Z
  split
  · rename_i h
    simp only [validB, Bool.and_eq_true, decide_eq_true_eq] at h
    have := h.1
    simp only [bauds, List.mem_cons, List.not_mem_nil, or_false] at this
    rcases this with rfl | rfl | rfl | rfl | rfl | rfl | rfl | rfl <;> decide
  · omega
set_option maxRecDepth 100000 in
set_option maxHeartbeats 16000000 in
theorem long_any (k0 n0 : Int) (w : World) :
    Calls Try.prog 5 #[.int .i64 k0, .int .i64 n0] w fun e w' => e = .returned (.bool true) ∧ Below w.heap.size w w' := by
  obtain ⟨j, hj, hm⟩ : ∃ j : Nat, j < 24 ∧ k0 % 24 = (j : Int) := ⟨(k0 % 24).toNat, by omega, by omega⟩
  have HM := Lib.hid (fun w => mod_eq k0 24 j (by omega) (by omega) hm w)
  have hlj : j < allL.length := by rw [all_length]; exact hj
  have hval := validAll j hlj
  obtain ⟨e0, e1⟩ := st_get0 allL j hlj
  obtain ⟨b, hb⟩ : ∃ b, (allL[j]).1 = b := ⟨_, rfl⟩
  obtain ⟨p, hp⟩ : ∃ p, (allL[j]).2 = p := ⟨_, rfl⟩
  rw [hb] at e0 hval
  rw [hp] at e1 hval
  have E0 := Lib.hid e0; have E1 := Lib.hid e1
  obtain ⟨r, hr, hrm⟩ : ∃ r : Nat, r < 20 ∧ n0 % 20 = (r : Int) := ⟨(n0 % 20).toNat, by omega, by omega⟩
  have HMr := Lib.hid (fun w => mod_eq n0 20 r (by omega) (by omega) hrm w)
  obtain ⟨N, hN⟩ : ∃ N : Nat, 250 + r = N := ⟨_, rfl⟩
  have kN : IntKind.i64.wrap (250 + (r : Int)) = (N : Int) := by rw [← hN]; exact IntWalk.i64_in _ ⟨by omega, by omega⟩
  obtain ⟨ch, hc⟩ : ∃ z, charZ b p = z := ⟨_, rfl⟩
  obtain ⟨t15, h15⟩ : ∃ z, t15Z b p = z := ⟨_, rfl⟩
  obtain ⟨t35, hu⟩ : ∃ z, t35Z b p = z := ⟨_, rfl⟩
  have HC := Lib.hid (fun w => rchar_eq b p ch hc w)
  obtain ⟨hch1, hch2⟩ := char_bd b p
  have hlo := t35_lo b p hval
  have h15b := t15_lo b p
  rw [hc] at hch1 hch2
  rw [hu] at hlo
  rw [h15] at h15b
  have HSP := Lib.hid (fun (W : World) (A : Option Addr) (c B : Nat) (hr : Rd W B 3 A N (evCells (evL ch N))) (hB : B ≤ W.heap.size) => split_ok b p ch t15 t35 hval hc h15 hu (evL ch N) A N c B W hr hB (by omega))
  have HFR := Lib.hid (frames_long ch t15 t35 hch1 h15b (by omega) N (by omega))
  have HIN := Lib.hid (in_long ch hch1 (by omega) N (by omega))
  have HOR := Lib.hid (ord_long ch hch1 N)
  have HWR := Lib.hid (fun (i : Nat) (h : i < N) => show IntKind.i64.wrap (((i : Int) + 1) * ch) = ((i : Int) + 1) * ch from IntWalk.i64_in _ (by
    have a : 0 ≤ ((i : Int) + 1) * ch := Int.mul_nonneg (by omega) hch1
    have b : ((i : Int) + 1) * ch ≤ 301 * 100000 := Int.mul_le_mul (by omega) (by omega) hch1 (by omega)
    exact ⟨by omega, by omega⟩))
  have hN1 : 250 ≤ N := by omega
  have hN2 : N ≤ 269 := by omega
  clear hm hb hp e0 e1 hc h15 hu hval hrm hN hch1 hch2 hlo h15b
  go_enter Try.func5, Try.ntmps5
  go_wp2_with fail
  refine (all_any _).mono ?_
  rintro e w1 ⟨A1, c0, rfl, hown, hb1⟩
  obtain ⟨g1, off, rfl, _, hcc⟩ := (Rd.of_own hown).2 (by omega)
  have c1 := hcc _ _ E0.out
  have c2 := hcc _ _ E1.out
  rw [← Nat.add_assoc] at c2
  clear hown hcc
  go_wp2_with fail
  refine (HM.out _).mono ?_
  rintro e w' ⟨rfl, rfl⟩
  go_upto_region 2 with fail
  obtain ⟨g0, hg⟩ : ∃ g, w1.heap.size = g := ⟨_, rfl⟩
  obtain ⟨W1, hW1⟩ : ∃ W1, w1.alloc (.cells #[.int .i64 b, .int .i64 p] 23) = W1 := ⟨_, rfl⟩
  have HSB := Lib.hid (show Box W1 g0 #[.int .i64 b, .int .i64 p] from hW1 ▸ hg ▸ Box.alloc_)
  have HBW := Lib.hid (show Below w.heap.size w W1 from hW1 ▸ ext_alloc hb1 _)
  try rw [hg]
  try rw [hW1]
  clear hW1 hg hb1 c1 c2
  go_wp2_with fail
  refine (HMr.out _).mono ?_
  rintro e w' ⟨rfl, rfl⟩
  go_wp2_with fail
  go_loopw [6, 7] (fun lv i x => ∃ (m : Nat) (Al : Option Addr) (cl : Nat), lv = .slice Al m cl ∧ i = .int .i64 m ∧ m ≤ N ∧ x.ownsRow W1.heap.size 42 3 (.slice Al m cl) m (evCells (evL ch m)) ∧ Below W1.heap.size W1 x) (fun _ i _ => N - (intOf i).toNat)
  case atStart => exact ⟨0, none, 0, rfl, rfl, by omega, ⟨rfl, .inl ⟨rfl, rfl⟩⟩, Below.refl _ _⟩
  case round =>
    obtain ⟨m, Al, cl, rfl, rfl, hmN, hown, hbr⟩ := hrel
    have HOW := Lib.hid hown
    have HBR := Lib.hid hbr
    have HS2 := Lib.hid (HSB.out.below hbr)
    clear hown hbr
    obtain ⟨qs, zs, ls⟩ := HS2.out
    by_cases hlt : m < N
    · have kw := HWR.out m hlt
      have k1 : IntKind.i64.wrap ((m : Int) + 1) = (m : Int) + 1 := IntWalk.i64_in _ ⟨by omega, by omega⟩
      go_wp2_with fail
      refine (HC.out _).mono ?_
      rintro e x2 ⟨rfl, hb2⟩
      have HOW2 := Lib.hid (own_below HOW.out hb2 (Nat.le_refl _))
      have HB2 := Lib.hid (ext_trans HBR.out hb2)
      clear hb2
      have hsz := HB2.out.size
      simp only []
      iterate 24 (first | at_builtin | (rename_i hKK; refine hKK _ _ ?_) | go_values | go_skip | go_guarded | go_step | go_upon | go_simp)
      refine wpList_appN (.tmp 23) (.tmp 32) 24 W1.heap.size 42 _ 3 24 _ m (evCells (evL ch m)) (x2.heap.size + 1) (some ⟨x2.heap.size, 0, none⟩) 1 1 _ Try.underlying24 evInfo rfl (by decide) rfl rfl rfl rfl (HOW2.out.alloc _) (Rd.lit rfl (Nat.lt_succ_self _)) (one_ev _ _ _) (by omega) (by omega) (by simp; omega) ?_
      intro vo' w6 hown6 hg6 hn6 hb6
      obtain ⟨A3, c3, hv3, _, _⟩ := own_form hown6
      subst hv3
      have hbw6 : Below W1.heap.size W1 w6 := (HB2.out.alloc hsz (.cells #[.int .i64 (((m : Int) + 1) * ch), .int .u8 ((m : Int) % 256), .int .i64 0] 42)).trans hb6
      have HW6 := Lib.hid hbw6
      have HO6 := Lib.hid (show w6.ownsRow W1.heap.size 42 3 (.slice A3 (m + 1) c3) (m + 1) (evCells (evL ch (m + 1))) by rw [evL_succ, evCells_snoc]; exact hown6)
      clear hown6 hg6 hn6 hb6 hbw6
      go_wp2_with fail
      go_roundw
      case rel => exact ⟨m + 1, A3, c3, rfl, by go_num, by omega, HO6.out, HW6.out⟩
      case measure => simp [intOf]; omega
    · obtain rfl : m = N := by omega
      go_wp2_with fail
      refine (HSP.out _ _ _ _ (Rd.of_own HOW.out) (Nat.le_refl _)).mono ?_
      rintro e x3 ⟨vo, E, rfl, hok⟩
      obtain ⟨rfl, hb3, l2, A2, c2, rfl, hr2, hf2, hl2⟩ := hok.get HIN.out HOR.out HFR.out
      have HB3 := Lib.hid (ext_trans HBR.out hb3)
      obtain ⟨f, rfl⟩ : ∃ f, l2 = [f] := by
        rcases l2 with _ | ⟨f, _ | ⟨g, t⟩⟩
        · cases hl2
        · exact ⟨f, rfl⟩
        · simp at hl2
      obtain ⟨fA, fn, fc, fxs, ffi, fla, ffl⟩ := f
      simp only [fz, Rs.frame, stL, List.map_cons, List.map_nil, List.cons.injEq, and_true, Fz.mk.injEq] at hl2
      obtain ⟨hx, _, _, hfl⟩ := hl2
      obtain ⟨b3, off3, rfl, hbl3, hc3⟩ := hr2.2 (by simp)
      have c0 : x3.cell? ⟨b3, off3, none⟩ = some (.slice fA fn fc) := hc3 0 (.slice fA fn fc) (by simp [frCells])
      have c3 := hc3 3 (.int .i64 ffl) (by simp [frCells])
      have hfr := (hf2 _ (List.mem_singleton.2 rfl)).1
      dsimp only at hfr
      have hfn : fn = min m 256 := by have h := hfr.1; rw [hx] at h; simpa [xsL_len] using h.symm
      obtain ⟨b4, off4, hA4, hbl4, hc4⟩ := hfr.2 (by omega)
      subst hA4
      have c4 := hc4 249 (.int .u8 249) (by rw [hx]; simp [xsL, show 249 < min m 256 by omega])
      have hbA := HB3.out
      have HBA := Lib.hid hbA
      by_cases hbig : 256 < m
      · obtain rfl : fn = 256 := by omega
        obtain rfl : ffl = 8 := by rw [hfl, if_pos hbig]
        have d1 : decide (256 < (m : Int)) = true := by simp; omega
        have d2 : (if (256 : Int) < (m : Int) then (256 : Int) else (m : Int)) = 256 := if_pos (by omega)
        clear hok hr2 hf2 hx hfl hfr hfn hc3 hc4 hb3 hbA HOW HBR HS2 qs zs ls hbig
        go_wp2_with fail
        refine (awake_any _).mono ?_
        rintro e y ⟨rfl, hby⟩
        have hfin := ext_trans HBW.out (ext_trans HBA.out hby)
        have HFIN := Lib.hid hfin
        have y0 := (hby.cell (p := ⟨b3, off3, none⟩) hbl3).trans c0
        have y3 := (hby.cell (p := ⟨b3, off3 + 3, none⟩) hbl3).trans c3
        have y4 := (hby.cell (p := ⟨b4, off4 + 249, none⟩) hbl4).trans c4
        clear hby hfin c0 c3 c4
        go_wp2
        go_ret
        exact ⟨rfl, HFIN.out⟩
      · obtain rfl : fn = m := by omega
        obtain rfl : ffl = 0 := by rw [hfl, if_neg hbig]
        have d1 : decide (256 < (fn : Int)) = false := by simp; omega
        have d2 : (if (256 : Int) < (fn : Int) then (256 : Int) else (fn : Int)) = (fn : Int) := if_neg (by omega)
        clear hok hr2 hf2 hx hfl hfr hfn hc3 hc4 hb3 hbA HOW HBR HS2 qs zs ls hbig
        go_wp2_with fail
        refine (awake_any _).mono ?_
        rintro e y ⟨rfl, hby⟩
        have hfin := ext_trans HBW.out (ext_trans HBA.out hby)
        have HFIN := Lib.hid hfin
        have y0 := (hby.cell (p := ⟨b3, off3, none⟩) hbl3).trans c0
        have y3 := (hby.cell (p := ⟨b3, off3 + 3, none⟩) hbl3).trans c3
        have y4 := (hby.cell (p := ⟨b4, off4 + 249, none⟩) hbl4).trans c4
        clear hby hfin c0 c3 c4
        go_wp2
        go_ret
        exact ⟨rfl, HFIN.out⟩
end Go.Proofs.Ythgapllfjllnfaa

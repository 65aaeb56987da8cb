/- The walk of ReceiverSteps. -/
import Derived.Test.YthgapllfjllnfaaRcvAA
set_option linter.unusedVariables false
set_option linter.unusedSimpArgs false
namespace Go.Proofs.Ythgapllfjllnfaa
open Go.RowKit

abbrev idCells (ids : List Int) : List Value := ids.map (Value.int .i64)
/-- The receiver's step: SpSt behind Idle. -/
theorem SpSt.idle {w0 w w' : World} {g : Nat} {v vo : Value} {ch t15 t35 : Int} {S S' : Rs} {l : List Fr} (h : SpSt w0 w g v vo ch t15 t35 S l) (hB : Box w' g (rcvCells ch t15 t35 v S'.fi S'.la S'.fl S'.ac S'.lt S'.id_)) (hx : S'.xs = S.xs) (hg : w.grownBy w' (some g)) : SpSt w0 w' g v vo ch t15 t35 S' l := by
  refine h.keep ⟨hB, ?_⟩ (.inl rfl) ((Chg.refl w g v.ownBlock).grown hg (.inl rfl))
  rw [hx]
  exact own_off h.1.2 hg (fun b hb e => by have := (h.1.2.lt b hb).1; injection e with e; omega)
set_option maxRecDepth 100000 in
set_option maxHeartbeats 32000000 in
theorem stepsLaw_any (k0 : Int) (l0 : List Ev) (A : Option Addr) (n c : Nat) (ids : List Int) (Ai : Option Addr) (ni ci : Nat) (w : World) (hr : Rd w w.heap.size 3 A n (evCells l0)) (hn : n ≤ maxLen) (hi : Rd w w.heap.size 1 Ai ni (idCells ids)) :
    Calls Try.prog 6 #[.int .i64 k0, .slice A n c, .slice Ai ni ci] w fun e w' => e = .returned (.bool true) ∧ Below w.heap.size w w' := by
  obtain ⟨j, hj, hm⟩ : ∃ j : Nat, j < 24 ∧ k0 % 24 = (j : Int) := ⟨(k0 % 24).toNat, by omega, by omega⟩
  have HM := Lib.hid (fun w => mod_eq k0 24 j (by omega) (by omega) hm w)
  have hlj : j < allL.length := by rw [all_length]; exact hj
  have hval := validAll j hlj
  obtain ⟨e0, e1⟩ := st_get0 allL j hlj
  obtain ⟨b, hb⟩ : ∃ b, (allL[j]).1 = b := ⟨_, rfl⟩
  obtain ⟨p, hp⟩ : ∃ p, (allL[j]).2 = p := ⟨_, rfl⟩
  rw [hb] at e0 hval
  rw [hp] at e1 hval
  have E0 := Lib.hid e0; have E1 := Lib.hid e1
  obtain ⟨ch, hc⟩ : ∃ z, charZ b p = z := ⟨_, rfl⟩
  obtain ⟨t15, h15⟩ : ∃ z, t15Z b p = z := ⟨_, rfl⟩
  obtain ⟨t35, hu⟩ : ∃ z, t35Z b p = z := ⟨_, rfl⟩
  obtain ⟨hch1, hch2⟩ := char_bd b p
  have hlo := t35_lo b p hval
  have hhi := (t35_bd b p).2
  have h15b := t15_lo b p
  rw [hc] at hch1 hch2
  rw [hu] at hlo hhi
  rw [h15] at h15b
  have HNB := Lib.hid (And.intro hch1 (And.intro hch2 (And.intro hlo (And.intro hhi h15b))))
  have HC := Lib.hid (fun w => rchar_eq b p ch hc w)
  have HT := Lib.hid (fun w => rt35_eq b p t35 hu w)
  have HNW := Lib.hid (fun W => new_ok b p ch t15 t35 hval hc h15 hu W)
  obtain ⟨evs, hevs⟩ : ∃ z, eventsL false l0 = z := ⟨_, rfl⟩
  have hel : evs.length ≤ 60 := by rw [← hevs]; exact eventsL_len false l0
  have HEV := Lib.hid (fun (W : World) (h : Rd W W.heap.size 3 A n (evCells l0)) => events_any false l0 A n c W h hn)
  rw [hevs] at HEV
  have HBD := Lib.hid (show ∀ e ∈ evs, 0 ≤ e.at_ ∧ e.at_ ≤ 1200000 by rw [← hevs]; exact evF_bd l0)
  have HIN := Lib.hid (show evs.all inR = true by rw [← hevs]; exact evF_in l0)
  have HOR := Lib.hid (show ordE 0 evs = true by rw [← hevs]; exact evF_ord l0)
  have HFM := Lib.hid (fun (W : World) (Al : Option Addr) (m cl : Nat) (h : Rd W W.heap.size 3 Al m (evCells evs)) (hm : m ≤ 1000) (h1 : m ≤ cl) (h2 : cl ≤ maxLen) => rframes_eq b p ch t15 t35 hc h15 hu evs Al m cl W.heap.size W h (Nat.le_refl _) h1 h2 hm HIN.out)
  have HR := Lib.hid hr
  have HI := Lib.hid hi
  have HEL := Lib.hid hel
  clear hm hb hp e0 e1 hr hn hi hel hc h15 hu hval hevs hch1 hch2 hlo hhi h15b
  go_enter Try.func6, Try.ntmps6
  go_wp2_with fail
  refine (all_any _).mono ?_
  rintro e w1 ⟨A1, c0, rfl, hown, hb1⟩
  obtain ⟨g1, off1, rfl, _, hcc⟩ := (Rd.of_own hown).2 (by omega)
  have c1 := hcc _ _ E0.out
  have c2 := hcc _ _ E1.out
  rw [← Nat.add_assoc] at c2
  clear hown hcc
  go_wp2_with fail
  refine (HM.out _).mono ?_
  rintro e w' ⟨rfl, rfl⟩
  go_upto_region 2 with fail
  obtain ⟨g7, hg⟩ : ∃ g, w1.heap.size = g := ⟨_, rfl⟩
  obtain ⟨W1, hW1⟩ : ∃ W1, w1.alloc (.cells #[.int .i64 b, .int .i64 p] 23) = W1 := ⟨_, rfl⟩
  have HSB := Lib.hid (show Box W1 g7 #[.int .i64 b, .int .i64 p] from hW1 ▸ hg ▸ Box.alloc_)
  have HBW := Lib.hid (show Below w.heap.size w W1 from hW1 ▸ ext_alloc hb1 _)
  try rw [hg]
  try rw [hW1]
  clear hW1 hg hb1 c1 c2
  go_wp2_with fail
  refine (HEV.out _ ((HR.out.below HBW.out (Nat.le_refl _)).more HBW.out.size)).mono ?_
  rintro e w2 ⟨m, Al, cl, rfl, hmc, hcm, hml, hr2, hb2⟩
  have HR2 := Lib.hid hr2
  have HB2 := Lib.hid (HSB.out.below hb2)
  have HW2 := Lib.hid (ext_trans HBW.out hb2)
  have HMC := Lib.hid (And.intro hmc (And.intro hcm (show m ≤ 60 by have := HEL.out; omega)))
  have HML := Lib.hid hml
  clear hmc hcm hml hr2 hb2
  obtain ⟨q, z, lx⟩ := HB2.out
  go_wp2_with fail
  refine (HNW.out _).mono ?_
  rintro e w3 ⟨g, rfl, hBg, hwg, hb3⟩
  have hst : SpSt w2 w3 g (.slice none 0 0) (.slice none 0 0) ch t15 t35 (wid .zero 0) [] :=
    ⟨⟨hBg, rfl, .inl ⟨rfl, rfl⟩⟩, ⟨rfl, .inl ⟨rfl, rfl⟩⟩, (fun e => by cases e), (fun b hb => by cases hb), (fun f hf => by cases hf), hwg, hb3⟩
  have HST := Lib.hid hst
  clear hst hBg hwg hb3 q z lx
  go_wp2_with fail
  go_loopw [10, 11, 12, 13, 14, 15, 16, 17] (fun ov iv u12 u13 u14 u15 u16 u17 x => ∃ (j : Nat) (v : Value) (l : List Fr) (Ao : Option Addr) (co : Nat) (i0 : Int), ov = .slice Ao l.length co ∧ iv = .int .i64 j ∧ j ≤ m ∧ i0 ≤ lastE 0 (evs.take j) ∧ SpSt w2 x g v (.slice Ao l.length co) ch t15 t35 (wid (runS ch t15 t35 .zero (evs.take j)).2 i0) l ∧ l.map fz = (runS ch t15 t35 .zero (evs.take j)).1) (fun _ iv _ _ _ _ _ _ _ => m - (intOf iv).toNat)
  case atStart => exact ⟨0, _, [], none, 0, 0, rfl, rfl, by omega, Int.le_refl _, HST.out, rfl⟩
  case round =>
    obtain ⟨j, v, l, Ao, co, i0, rfl, rfl, hj, hi0, hsp, hlm⟩ := hrel
    obtain ⟨T, hT⟩ : ∃ S, (runS ch t15 t35 .zero (evs.take j)).2 = S := ⟨_, rfl⟩
    obtain ⟨F, hF⟩ : ∃ F, (runS ch t15 t35 .zero (evs.take j)).1 = F := ⟨_, rfl⟩
    have hTx := runS_xs ch t15 t35 .zero (evs.take j) (by simp [Rs.zero])
    have hFl := runS_len ch t15 t35 .zero (evs.take j)
    have hac : 0 < j → j ≤ evs.length → T.ac = true := fun h h2 => by rw [← hT]; exact runS_ac ch t15 t35 .zero _ (by intro h3; rw [List.take_eq_nil_iff] at h3; rcases h3 with h3 | h3 <;> first | omega | (subst h3; simp at h2; omega))
    rw [hT] at hTx hsp
    rw [hF] at hFl hlm
    have hTl : T.lt = lastE 0 (evs.take j) := by rw [← hT]; exact (runS_lt ch t15 t35 .zero (evs.take j)).1
    have hl0 : l.length ≤ 60 := by
      have h1 : l.length = F.length := by rw [← hlm]; simp
      have h2 : (evs.take j).length ≤ j := by simp; omega
      have := HMC.out.2.2
      omega
    have HSP := Lib.hid hsp
    have HLM := Lib.hid hlm
    have HL0 := Lib.hid hl0
    have HTL := Lib.hid hTl
    have HTX := Lib.hid hTx
    have HT2 := Lib.hid hT
    have HF2 := Lib.hid hF
    have HAC := Lib.hid hac
    rw [← hTl] at hi0
    have HI0 := Lib.hid hi0
    clear hi0 hsp hlm hTl hTx hFl hl0 hT hF hac
    by_cases hlt : j < m
    · have HLT := Lib.hid hlt
      have kw : IntKind.i64.wrap ((j : Int) + 1) = (j : Int) + 1 := IntWalk.i64_in _ ⟨by omega, by have := HMC.out.2.2; omega⟩
      have hel := HML.out
      have hje : j < evs.length := by omega
      have hRk := HR2.out.below HSP.out.2.2.2.2.2.2 (Nat.le_refl _)
      obtain ⟨b0, off, hA0, hbl, hk', c0, c1, c2⟩ := ev_at hRk j hlt
      subst hA0
      obtain ⟨ev, hev⟩ : ∃ ev, evs[j] = ev := ⟨_, rfl⟩
      rw [hev] at c0 c1 c2
      have hebd := HBD.out ev (by rw [← hev]; exact List.getElem_mem hje)
      have htk := List.take_succ_eq_append_getElem hje
      rw [hev] at htk
      have hord : T.lt ≤ ev.at_ := by
        have h1 := ordE_take 0 evs (j + 1) HOR.out
        rw [htk, ordE_snoc] at h1
        simp at h1
        rw [HTL.out]; exact h1.2
      have htl0 : 0 ≤ T.lt := by rw [HTL.out]; exact lastE_nonneg 0 _ (Int.le_refl _) (alle_take _ _ HIN.out)
      have HTK := Lib.hid htk
      have HBT := Lib.hid (And.intro hebd (And.intro hord htl0))
      have HCL := Lib.hid (fun (W : World) (h : Below w2.heap.size w2 W) => show (W.cell? ⟨b0, off + j * 3, none⟩ = some (.int .i64 ev.at_) ∧ W.cell? ⟨b0, off + j * 3 + 1, none⟩ = some (.int .u8 ev.val) ∧ W.cell? ⟨b0, off + j * 3 + 2, none⟩ = some (.int .i64 ev.fl)) from by
        obtain ⟨b3, off3, hA3, _, hk3, d0, d1, d2⟩ := ev_at (HR2.out.below h (Nat.le_refl _)) j hlt
        injection hA3 with hA3
        injection hA3 with e1 e2
        subst e1 e2
        rw [hev] at d0 d1 d2
        exact ⟨d0, d1, d2⟩)
      have HPV := Lib.hid (fun (hj0 : 0 < j) (W : World) (h : Below w2.heap.size w2 W) => show W.cell? ⟨b0, off + (j - 1) * 3, none⟩ = some (.int .i64 T.lt) from by
        obtain ⟨b3, off3, hA3, _, hk3, d0, d1, d2⟩ := ev_at (HR2.out.below h (Nat.le_refl _)) (j - 1) (by omega)
        injection hA3 with hA3
        injection hA3 with e1 e2
        subst e1 e2
        have h5 : T.lt = evs[j - 1].at_ := by
          rw [HTL.out]
          have h6 := List.take_succ_eq_append_getElem hk3
          rw [show j - 1 + 1 = j by omega] at h6
          rw [h6, lastE_snoc]
        rw [h5]; exact d0)
      clear hRk hk' c0 c1 c2 hev hebd htk hord htl0 hje hel
      obtain ⟨ib, hib⟩ : ∃ ib : Bool, ib = decide (0 < j ∧ j < ni ∧ T.lt < ev.at_) := ⟨_, rfl⟩
      have HIB := Lib.hid hib
      clear hib
      go_upto_region 10 with fail
      go_cut [71] (fun u x => u = .bool ib ∧ SpSt w2 x g v (.slice Ao l.length co) ch t15 t35 (wid T i0) l)
      case first =>
        have HSD := Lib.hid (HSP.out.below (below_drew (Below.refl _ _)))
        by_cases hj0 : 0 < j
        · have d1 : decide (0 < (j : Int)) = true := by simp; omega
          by_cases hjn : j < ni
          · have d2 : decide ((j : Int) < (ni : Int)) = true := by simp; omega
            obtain ⟨ts, hts⟩ : ∃ ts, decide (T.lt < ev.at_) = ts := ⟨_, rfl⟩
            have HZ := Lib.hid (show ib = ts by rw [HIB.out, ← hts]; simp [hj0, hjn])
            obtain ⟨jp, hjp⟩ : ∃ jp, j - 1 = jp := ⟨_, rfl⟩
            have k0 : IntKind.i64.wrap ((j : Int) - 1) = (jp : Int) := by rw [show (j : Int) - 1 = (jp : Int) by omega]; exact IntWalk.i64_in _ ⟨by omega, by have := HMC.out.2.2; omega⟩
            have hjm : jp < m := by omega
            have y0 := (HCL.out _ HSD.out.2.2.2.2.2.2).1
            have y1 := HPV.out hj0 _ HSD.out.2.2.2.2.2.2
            rw [hjp] at y1
            clear hjp
            have hS0 := And.intro y0 (And.intro y1 trivial)
            refine rgs_start (fun W => W.cell? ⟨b0, off + j * 3, none⟩ = some (.int .i64 ev.at_) ∧ W.cell? ⟨b0, off + jp * 3, none⟩ = some (.int .i64 T.lt) ∧ True) (by kernel_rfl) ?_
            refine rgs_t (v := ?_) (some 50) 0 (by kernel_rfl) rfl rfl (by assumption) (.inl ⟨by rfl, fun w' hw => ?_⟩) ?_
            rotate_left
            · obtain ⟨q1, q2, q3⟩ := hw; go_simp <;> with_reducible rfl
            try simp only [Act.put, List.setIfInBounds_toArray, List.set_cons_zero, List.set_cons_succ]
            refine rgs_t (v := ?_) (some 51) 1 (by kernel_rfl) rfl rfl (by assumption) (.inl ⟨by rfl, fun w' hw => ?_⟩) ?_
            rotate_left
            · obtain ⟨q1, q2, q3⟩ := hw; go_simp <;> with_reducible rfl
            try simp only [Act.put, List.setIfInBounds_toArray, List.set_cons_zero, List.set_cons_succ]
            refine rgs_t (v := ?_) (some 52) 2 (by kernel_rfl) rfl rfl (by assumption) (.inl ⟨by rfl, fun w' hw => ?_⟩) ?_
            rotate_left
            · obtain ⟨q1, q2, q3⟩ := hw; go_simp <;> with_reducible rfl
            try simp only [Act.put, List.setIfInBounds_toArray, List.set_cons_zero, List.set_cons_succ]
            refine rgs_t (v := ?_) (some 53) 3 (by kernel_rfl) rfl rfl (by assumption) (.inl ⟨by rfl, fun w' hw => ?_⟩) ?_
            rotate_left
            · obtain ⟨q1, q2, q3⟩ := hw; go_simp <;> with_reducible rfl
            try simp only [Act.put, List.setIfInBounds_toArray, List.set_cons_zero, List.set_cons_succ]
            refine rgs_t (v := ?_) (some 54) 4 (by kernel_rfl) rfl rfl (by assumption) (.inl ⟨by rfl, fun w' hw => ?_⟩) ?_
            rotate_left
            · obtain ⟨q1, q2, q3⟩ := hw; go_simp <;> with_reducible rfl
            try simp only [Act.put, List.setIfInBounds_toArray, List.set_cons_zero, List.set_cons_succ]
            refine rgs_t (v := ?_) (some 55) 5 (by kernel_rfl) rfl rfl (by assumption) (.inl ⟨by rfl, fun w' hw => ?_⟩) ?_
            rotate_left
            · obtain ⟨q1, q2, q3⟩ := hw; go_simp <;> with_reducible rfl
            try simp only [Act.put, List.setIfInBounds_toArray, List.set_cons_zero, List.set_cons_succ]
            refine rgs_t (v := ?_) (some 56) 6 (by kernel_rfl) rfl rfl (by assumption) (.inl ⟨by rfl, fun w' hw => ?_⟩) ?_
            rotate_left
            · obtain ⟨q1, q2, q3⟩ := hw; go_simp <;> with_reducible rfl
            try simp only [Act.put, List.setIfInBounds_toArray, List.set_cons_zero, List.set_cons_succ]
            refine rgs_t (v := ?_) (some 57) 7 (by kernel_rfl) rfl rfl (by assumption) (.inl ⟨by rfl, fun w' hw => ?_⟩) ?_
            rotate_left
            · obtain ⟨q1, q2, q3⟩ := hw; go_simp <;> with_reducible rfl
            try simp only [Act.put, List.setIfInBounds_toArray, List.set_cons_zero, List.set_cons_succ]
            refine rgs_t (v := ?_) (some 58) 8 (by kernel_rfl) rfl rfl (by assumption) (.inl ⟨by rfl, fun w' hw => ?_⟩) ?_
            rotate_left
            · obtain ⟨q1, q2, q3⟩ := hw; go_simp <;> with_reducible rfl
            try simp only [Act.put, List.setIfInBounds_toArray, List.set_cons_zero, List.set_cons_succ]
            refine rgs_t (v := ?_) (some 59) 9 (by kernel_rfl) rfl rfl (by assumption) (.inl ⟨by rfl, fun w' hw => ?_⟩) ?_
            rotate_left
            · obtain ⟨q1, q2, q3⟩ := hw; go_simp <;> with_reducible rfl
            try simp only [Act.put, List.setIfInBounds_toArray, List.set_cons_zero, List.set_cons_succ]
            refine rgs_t (v := ?_) (some 60) 10 (by kernel_rfl) rfl rfl (by assumption) (.inl ⟨by rfl, fun w' hw => ?_⟩) ?_
            rotate_left
            · obtain ⟨q1, q2, q3⟩ := hw; go_simp <;> with_reducible rfl
            try simp only [Act.put, List.setIfInBounds_toArray, List.set_cons_zero, List.set_cons_succ]
            refine rgs_t (v := ?_) (some 61) 11 (by kernel_rfl) rfl rfl (by assumption) (.inl ⟨by rfl, fun w' hw => ?_⟩) ?_
            rotate_left
            · obtain ⟨q1, q2, q3⟩ := hw; go_simp <;> with_reducible rfl
            try simp only [Act.put, List.setIfInBounds_toArray, List.set_cons_zero, List.set_cons_succ]
            refine rgs_t (v := ?_) (some 62) 12 (by kernel_rfl) rfl rfl (by assumption) (.inl ⟨by rfl, fun w' hw => ?_⟩) ?_
            rotate_left
            · obtain ⟨q1, q2, q3⟩ := hw; go_simp <;> with_reducible rfl
            try simp only [Act.put, List.setIfInBounds_toArray, List.set_cons_zero, List.set_cons_succ]
            refine rgs_t (v := ?_) (some 63) 13 (by kernel_rfl) rfl rfl (by assumption) (.inl ⟨by rfl, fun w' hw => ?_⟩) ?_
            rotate_left
            · obtain ⟨q1, q2, q3⟩ := hw; go_simp <;> with_reducible rfl
            try simp only [Act.put, List.setIfInBounds_toArray, List.set_cons_zero, List.set_cons_succ]
            refine rgs_t (v := ?_) (some 64) 14 (by kernel_rfl) rfl rfl (by assumption) (.inl ⟨by rfl, fun w' hw => ?_⟩) ?_
            rotate_left
            · obtain ⟨q1, q2, q3⟩ := hw; go_simp <;> with_reducible rfl
            try simp only [Act.put, List.setIfInBounds_toArray, List.set_cons_zero, List.set_cons_succ]
            refine rgs_t (v := ?_) (some 65) 15 (by kernel_rfl) rfl rfl (by assumption) (.inl ⟨by rfl, fun w' hw => ?_⟩) ?_
            rotate_left
            · obtain ⟨q1, q2, q3⟩ := hw; go_simp <;> with_reducible rfl
            try simp only [Act.put, List.setIfInBounds_toArray, List.set_cons_zero, List.set_cons_succ]
            refine rgs_t (v := ?_) (some 66) 16 (by kernel_rfl) rfl rfl (by assumption) (.inl ⟨by rfl, fun w' hw => ?_⟩) ?_
            rotate_left
            · obtain ⟨q1, q2, q3⟩ := hw; go_simp <;> with_reducible rfl
            try simp only [Act.put, List.setIfInBounds_toArray, List.set_cons_zero, List.set_cons_succ]
            refine rgs_t (v := ?_) (some 67) 17 (by kernel_rfl) rfl rfl (by assumption) (.inl ⟨by rfl, fun w' hw => ?_⟩) ?_
            rotate_left
            · obtain ⟨q1, q2, q3⟩ := hw; go_simp <;> with_reducible rfl
            try simp only [Act.put, List.setIfInBounds_toArray, List.set_cons_zero, List.set_cons_succ]
            refine rgs_t (v := ?_) (some 68) 18 (by kernel_rfl) rfl rfl (by assumption) (.inl ⟨by rfl, fun w' hw => ?_⟩) ?_
            rotate_left
            · obtain ⟨q1, q2, q3⟩ := hw; go_simp <;> with_reducible rfl
            try simp only [Act.put, List.setIfInBounds_toArray, List.set_cons_zero, List.set_cons_succ]
            refine rgs_t (v := ?_) (some 69) 19 (by kernel_rfl) rfl rfl (by assumption) (.inl ⟨by rfl, fun w' hw => ?_⟩) ?_
            rotate_left
            · obtain ⟨q1, q2, q3⟩ := hw; go_simp <;> with_reducible rfl
            try simp only [Act.put, List.setIfInBounds_toArray, List.set_cons_zero, List.set_cons_succ]
            refine rgs_t (v := ?_) (some 70) 20 (by kernel_rfl) rfl rfl (by assumption) (.inl ⟨by rfl, fun w' hw => ?_⟩) ?_
            rotate_left
            · obtain ⟨q1, q2, q3⟩ := hw; go_simp <;> with_reducible rfl
            try simp only [Act.put, List.setIfInBounds_toArray, List.set_cons_zero, List.set_cons_succ]
            refine rgs_t (v := ?_) (some 71) 21 (by kernel_rfl) rfl rfl (by assumption) (.inl ⟨by rfl, fun w' hw => ?_⟩) ?_
            rotate_left
            · obtain ⟨q1, q2, q3⟩ := hw; go_simp <;> with_reducible rfl
            try simp only [Act.put, List.setIfInBounds_toArray, List.set_cons_zero, List.set_cons_succ]
            refine rgs_d (by kernel_rfl) ?_
            go_wp2_with fail
            go_meet
            case rel => exact ⟨by rw [HZ.out], HSD.out⟩
          · have d2 : decide ((j : Int) < (ni : Int)) = false := by simp; omega
            have HZ := Lib.hid (show ib = false by rw [HIB.out]; simp [hjn])
            have hS0 : True ∧ True ∧ True := ⟨trivial, trivial, trivial⟩
            refine rgs_start (fun W => True ∧ True ∧ True) (by kernel_rfl) ?_
            refine rgs_t (v := ?_) (some 50) 0 (by kernel_rfl) rfl rfl (by assumption) (.inl ⟨by rfl, fun w' hw => ?_⟩) ?_
            rotate_left
            · obtain ⟨q1, q2, q3⟩ := hw; go_simp <;> with_reducible rfl
            try simp only [Act.put, List.setIfInBounds_toArray, List.set_cons_zero, List.set_cons_succ]
            refine rgs_t (v := ?_) (some 51) 1 (by kernel_rfl) rfl rfl (by assumption) (.inl ⟨by rfl, fun w' hw => ?_⟩) ?_
            rotate_left
            · obtain ⟨q1, q2, q3⟩ := hw; go_simp <;> with_reducible rfl
            try simp only [Act.put, List.setIfInBounds_toArray, List.set_cons_zero, List.set_cons_succ]
            refine rgs_t (v := ?_) (some 52) 2 (by kernel_rfl) rfl rfl (by assumption) (.inl ⟨by rfl, fun w' hw => ?_⟩) ?_
            rotate_left
            · obtain ⟨q1, q2, q3⟩ := hw; go_simp <;> with_reducible rfl
            try simp only [Act.put, List.setIfInBounds_toArray, List.set_cons_zero, List.set_cons_succ]
            refine rgs_t (v := ?_) (some 53) 3 (by kernel_rfl) rfl rfl (by assumption) (.inl ⟨by rfl, fun w' hw => ?_⟩) ?_
            rotate_left
            · obtain ⟨q1, q2, q3⟩ := hw; go_simp <;> with_reducible rfl
            try simp only [Act.put, List.setIfInBounds_toArray, List.set_cons_zero, List.set_cons_succ]
            refine rgs_t (v := ?_) (some 54) 4 (by kernel_rfl) rfl rfl (by assumption) (.inl ⟨by rfl, fun w' hw => ?_⟩) ?_
            rotate_left
            · obtain ⟨q1, q2, q3⟩ := hw; go_simp <;> with_reducible rfl
            try simp only [Act.put, List.setIfInBounds_toArray, List.set_cons_zero, List.set_cons_succ]
            refine rgs_t (v := ?_) (some 55) 5 (by kernel_rfl) rfl rfl (by assumption) (.inl ⟨by rfl, fun w' hw => ?_⟩) ?_
            rotate_left
            · obtain ⟨q1, q2, q3⟩ := hw; go_simp <;> with_reducible rfl
            try simp only [Act.put, List.setIfInBounds_toArray, List.set_cons_zero, List.set_cons_succ]
            refine rgs_t (v := ?_) (some 56) 6 (by kernel_rfl) rfl rfl (by assumption) (.inl ⟨by rfl, fun w' hw => ?_⟩) ?_
            rotate_left
            · obtain ⟨q1, q2, q3⟩ := hw; go_simp <;> with_reducible rfl
            try simp only [Act.put, List.setIfInBounds_toArray, List.set_cons_zero, List.set_cons_succ]
            refine rgs_t (v := ?_) (some 57) 7 (by kernel_rfl) rfl rfl (by assumption) (.inl ⟨by rfl, fun w' hw => ?_⟩) ?_
            rotate_left
            · obtain ⟨q1, q2, q3⟩ := hw; go_simp <;> with_reducible rfl
            try simp only [Act.put, List.setIfInBounds_toArray, List.set_cons_zero, List.set_cons_succ]
            refine rgs_t (v := ?_) (some 58) 8 (by kernel_rfl) rfl rfl (by assumption) (.inl ⟨by rfl, fun w' hw => ?_⟩) ?_
            rotate_left
            · obtain ⟨q1, q2, q3⟩ := hw; go_simp <;> with_reducible rfl
            try simp only [Act.put, List.setIfInBounds_toArray, List.set_cons_zero, List.set_cons_succ]
            refine rgs_t (some 59) 9 (by kernel_rfl) rfl rfl (by assumption) (.inr ⟨by rfl, rfl⟩) ?_
            try simp only [Act.put, List.setIfInBounds_toArray, List.set_cons_zero, List.set_cons_succ]
            refine rgs_t (some 60) 10 (by kernel_rfl) rfl rfl (by assumption) (.inr ⟨by rfl, rfl⟩) ?_
            try simp only [Act.put, List.setIfInBounds_toArray, List.set_cons_zero, List.set_cons_succ]
            refine rgs_t (some 61) 11 (by kernel_rfl) rfl rfl (by assumption) (.inr ⟨by rfl, rfl⟩) ?_
            try simp only [Act.put, List.setIfInBounds_toArray, List.set_cons_zero, List.set_cons_succ]
            refine rgs_t (some 62) 12 (by kernel_rfl) rfl rfl (by assumption) (.inr ⟨by rfl, rfl⟩) ?_
            try simp only [Act.put, List.setIfInBounds_toArray, List.set_cons_zero, List.set_cons_succ]
            refine rgs_t (some 63) 13 (by kernel_rfl) rfl rfl (by assumption) (.inr ⟨by rfl, rfl⟩) ?_
            try simp only [Act.put, List.setIfInBounds_toArray, List.set_cons_zero, List.set_cons_succ]
            refine rgs_t (some 64) 14 (by kernel_rfl) rfl rfl (by assumption) (.inr ⟨by rfl, rfl⟩) ?_
            try simp only [Act.put, List.setIfInBounds_toArray, List.set_cons_zero, List.set_cons_succ]
            refine rgs_t (some 65) 15 (by kernel_rfl) rfl rfl (by assumption) (.inr ⟨by rfl, rfl⟩) ?_
            try simp only [Act.put, List.setIfInBounds_toArray, List.set_cons_zero, List.set_cons_succ]
            refine rgs_t (some 66) 16 (by kernel_rfl) rfl rfl (by assumption) (.inr ⟨by rfl, rfl⟩) ?_
            try simp only [Act.put, List.setIfInBounds_toArray, List.set_cons_zero, List.set_cons_succ]
            refine rgs_t (some 67) 17 (by kernel_rfl) rfl rfl (by assumption) (.inr ⟨by rfl, rfl⟩) ?_
            try simp only [Act.put, List.setIfInBounds_toArray, List.set_cons_zero, List.set_cons_succ]
            refine rgs_t (some 68) 18 (by kernel_rfl) rfl rfl (by assumption) (.inr ⟨by rfl, rfl⟩) ?_
            try simp only [Act.put, List.setIfInBounds_toArray, List.set_cons_zero, List.set_cons_succ]
            refine rgs_t (some 69) 19 (by kernel_rfl) rfl rfl (by assumption) (.inr ⟨by rfl, rfl⟩) ?_
            try simp only [Act.put, List.setIfInBounds_toArray, List.set_cons_zero, List.set_cons_succ]
            refine rgs_t (some 70) 20 (by kernel_rfl) rfl rfl (by assumption) (.inr ⟨by rfl, rfl⟩) ?_
            try simp only [Act.put, List.setIfInBounds_toArray, List.set_cons_zero, List.set_cons_succ]
            refine rgs_t (v := ?_) (some 71) 21 (by kernel_rfl) rfl rfl (by assumption) (.inl ⟨by rfl, fun w' hw => ?_⟩) ?_
            rotate_left
            · obtain ⟨q1, q2, q3⟩ := hw; go_simp <;> with_reducible rfl
            try simp only [Act.put, List.setIfInBounds_toArray, List.set_cons_zero, List.set_cons_succ]
            refine rgs_d (by kernel_rfl) ?_
            go_wp2_with fail
            go_meet
            case rel => exact ⟨by rw [HZ.out], HSD.out⟩
        · have d1 : decide (0 < (j : Int)) = false := by simp; omega
          have HZ := Lib.hid (show ib = false by rw [HIB.out]; simp [hj0])
          have hS0 : True ∧ True ∧ True := ⟨trivial, trivial, trivial⟩
          refine rgs_start (fun W => True ∧ True ∧ True) (by kernel_rfl) ?_
          refine rgs_t (v := ?_) (some 50) 0 (by kernel_rfl) rfl rfl (by assumption) (.inl ⟨by rfl, fun w' hw => ?_⟩) ?_
          rotate_left
          · obtain ⟨q1, q2, q3⟩ := hw; go_simp <;> with_reducible rfl
          try simp only [Act.put, List.setIfInBounds_toArray, List.set_cons_zero, List.set_cons_succ]
          refine rgs_t (v := ?_) (some 51) 1 (by kernel_rfl) rfl rfl (by assumption) (.inl ⟨by rfl, fun w' hw => ?_⟩) ?_
          rotate_left
          · obtain ⟨q1, q2, q3⟩ := hw; go_simp <;> with_reducible rfl
          try simp only [Act.put, List.setIfInBounds_toArray, List.set_cons_zero, List.set_cons_succ]
          refine rgs_t (v := ?_) (some 52) 2 (by kernel_rfl) rfl rfl (by assumption) (.inl ⟨by rfl, fun w' hw => ?_⟩) ?_
          rotate_left
          · obtain ⟨q1, q2, q3⟩ := hw; go_simp <;> with_reducible rfl
          try simp only [Act.put, List.setIfInBounds_toArray, List.set_cons_zero, List.set_cons_succ]
          refine rgs_t (some 53) 3 (by kernel_rfl) rfl rfl (by assumption) (.inr ⟨by rfl, rfl⟩) ?_
          try simp only [Act.put, List.setIfInBounds_toArray, List.set_cons_zero, List.set_cons_succ]
          refine rgs_t (some 54) 4 (by kernel_rfl) rfl rfl (by assumption) (.inr ⟨by rfl, rfl⟩) ?_
          try simp only [Act.put, List.setIfInBounds_toArray, List.set_cons_zero, List.set_cons_succ]
          refine rgs_t (some 55) 5 (by kernel_rfl) rfl rfl (by assumption) (.inr ⟨by rfl, rfl⟩) ?_
          try simp only [Act.put, List.setIfInBounds_toArray, List.set_cons_zero, List.set_cons_succ]
          refine rgs_t (some 56) 6 (by kernel_rfl) rfl rfl (by assumption) (.inr ⟨by rfl, rfl⟩) ?_
          try simp only [Act.put, List.setIfInBounds_toArray, List.set_cons_zero, List.set_cons_succ]
          refine rgs_t (v := ?_) (some 57) 7 (by kernel_rfl) rfl rfl (by assumption) (.inl ⟨by rfl, fun w' hw => ?_⟩) ?_
          rotate_left
          · obtain ⟨q1, q2, q3⟩ := hw; go_simp <;> with_reducible rfl
          try simp only [Act.put, List.setIfInBounds_toArray, List.set_cons_zero, List.set_cons_succ]
          refine rgs_t (v := ?_) (some 58) 8 (by kernel_rfl) rfl rfl (by assumption) (.inl ⟨by rfl, fun w' hw => ?_⟩) ?_
          rotate_left
          · obtain ⟨q1, q2, q3⟩ := hw; go_simp <;> with_reducible rfl
          try simp only [Act.put, List.setIfInBounds_toArray, List.set_cons_zero, List.set_cons_succ]
          refine rgs_t (some 59) 9 (by kernel_rfl) rfl rfl (by assumption) (.inr ⟨by rfl, rfl⟩) ?_
          try simp only [Act.put, List.setIfInBounds_toArray, List.set_cons_zero, List.set_cons_succ]
          refine rgs_t (some 60) 10 (by kernel_rfl) rfl rfl (by assumption) (.inr ⟨by rfl, rfl⟩) ?_
          try simp only [Act.put, List.setIfInBounds_toArray, List.set_cons_zero, List.set_cons_succ]
          refine rgs_t (some 61) 11 (by kernel_rfl) rfl rfl (by assumption) (.inr ⟨by rfl, rfl⟩) ?_
          try simp only [Act.put, List.setIfInBounds_toArray, List.set_cons_zero, List.set_cons_succ]
          refine rgs_t (some 62) 12 (by kernel_rfl) rfl rfl (by assumption) (.inr ⟨by rfl, rfl⟩) ?_
          try simp only [Act.put, List.setIfInBounds_toArray, List.set_cons_zero, List.set_cons_succ]
          refine rgs_t (some 63) 13 (by kernel_rfl) rfl rfl (by assumption) (.inr ⟨by rfl, rfl⟩) ?_
          try simp only [Act.put, List.setIfInBounds_toArray, List.set_cons_zero, List.set_cons_succ]
          refine rgs_t (some 64) 14 (by kernel_rfl) rfl rfl (by assumption) (.inr ⟨by rfl, rfl⟩) ?_
          try simp only [Act.put, List.setIfInBounds_toArray, List.set_cons_zero, List.set_cons_succ]
          refine rgs_t (some 65) 15 (by kernel_rfl) rfl rfl (by assumption) (.inr ⟨by rfl, rfl⟩) ?_
          try simp only [Act.put, List.setIfInBounds_toArray, List.set_cons_zero, List.set_cons_succ]
          refine rgs_t (some 66) 16 (by kernel_rfl) rfl rfl (by assumption) (.inr ⟨by rfl, rfl⟩) ?_
          try simp only [Act.put, List.setIfInBounds_toArray, List.set_cons_zero, List.set_cons_succ]
          refine rgs_t (some 67) 17 (by kernel_rfl) rfl rfl (by assumption) (.inr ⟨by rfl, rfl⟩) ?_
          try simp only [Act.put, List.setIfInBounds_toArray, List.set_cons_zero, List.set_cons_succ]
          refine rgs_t (some 68) 18 (by kernel_rfl) rfl rfl (by assumption) (.inr ⟨by rfl, rfl⟩) ?_
          try simp only [Act.put, List.setIfInBounds_toArray, List.set_cons_zero, List.set_cons_succ]
          refine rgs_t (some 69) 19 (by kernel_rfl) rfl rfl (by assumption) (.inr ⟨by rfl, rfl⟩) ?_
          try simp only [Act.put, List.setIfInBounds_toArray, List.set_cons_zero, List.set_cons_succ]
          refine rgs_t (some 70) 20 (by kernel_rfl) rfl rfl (by assumption) (.inr ⟨by rfl, rfl⟩) ?_
          try simp only [Act.put, List.setIfInBounds_toArray, List.set_cons_zero, List.set_cons_succ]
          refine rgs_t (v := ?_) (some 71) 21 (by kernel_rfl) rfl rfl (by assumption) (.inl ⟨by rfl, fun w' hw => ?_⟩) ?_
          rotate_left
          · obtain ⟨q1, q2, q3⟩ := hw; go_simp <;> with_reducible rfl
          try simp only [Act.put, List.setIfInBounds_toArray, List.set_cons_zero, List.set_cons_succ]
          refine rgs_d (by kernel_rfl) ?_
          go_wp2_with fail
          go_meet
          case rel => exact ⟨by rw [HZ.out], HSD.out⟩
      case rest =>
        obtain ⟨rfl, hsp⟩ := hcut
        have HSP := Lib.hid hsp
        clear hsp
        obtain ⟨E1, hE1⟩ : ∃ E : List Fz, F ++ (if endS ch t35 T ev then [T.frame] else []) = E := ⟨_, rfl⟩
        go_upto_if 71 with fail
        go_cut [10] (fun o x => ∃ (v1 : Value) (l1 : List Fr) (A1 : Option Addr) (c1 : Nat) (S1 : Rs), o = .slice A1 l1.length c1 ∧ SpSt w2 x g v1 (.slice A1 l1.length c1) ch t15 t35 S1 l1 ∧ Mid ch t15 t35 T S1 ev F (l1.map fz) ∧ S1.id_ ≤ ev.at_ ∧ l1.length ≤ 61)
        case first =>
          cases ib
          · go_wp2_with fail
            go_meet
            case rel => exact ⟨v, l, Ao, co, wid T i0, rfl, HSP.out, by rw [HLM.out]; exact mid_same ch t15 t35 T i0 ev F HTX.out, Int.le_trans HI0.out HBT.out.2.1, by have := HL0.out; omega⟩
          · have hib := HIB.out
            have hib2 : 0 < j ∧ j < ni ∧ T.lt < ev.at_ := of_decide_eq_true hib.symm
            obtain ⟨hj0, hjn, hlta⟩ := hib2
            have hac : T.ac = true := HAC.out hj0 (by have := HML.out; omega)
            have hil : ids.length = ni := by have := HI.out.1; simpa using this
            obtain ⟨bi, oi, hAi, hbi, hci⟩ := HI.out.2 (by omega)
            subst hAi
            have hjd : j < ids.length := by omega
            obtain ⟨idv, hidv⟩ : ∃ z, ids[j] = z := ⟨_, rfl⟩
            have ci0 := hci j (.int .i64 idv) (by rw [← hidv]; simp [List.getElem?_eq_getElem hjd])
            obtain ⟨r, hr⟩ : ∃ r, idv % (ev.at_ - T.lt + 1) = r := ⟨_, rfl⟩
            have hr0 : 0 ≤ r := by rw [← hr]; exact Int.emod_nonneg _ (by omega)
            have hr1 : r < ev.at_ - T.lt + 1 := by rw [← hr]; exact Int.emod_lt_of_pos _ (by omega)
            have hbt := HBT.out
            have HMD := Lib.hid (fun w => mod_eq idv (ev.at_ - T.lt + 1) r (by omega) (by omega) hr w)
            obtain ⟨tk, htk⟩ : ∃ t, T.lt + r = t := ⟨_, rfl⟩
            have k1 : IntKind.i64.wrap (ev.at_ - T.lt) = ev.at_ - T.lt := IntWalk.i64_in _ ⟨by omega, by omega⟩
            have k2 : IntKind.i64.wrap (ev.at_ - T.lt + 1) = ev.at_ - T.lt + 1 := IntWalk.i64_in _ ⟨by omega, by omega⟩
            have k3 : IntKind.i64.wrap (T.lt + r) = tk := by rw [htk]; exact IntWalk.i64_in _ ⟨by omega, by omega⟩
            have HTK2 := Lib.hid (show T.lt ≤ tk ∧ tk ≤ ev.at_ by omega)
            obtain ⟨jp, hjp⟩ : ∃ jp, j - 1 = jp := ⟨_, rfl⟩
            have k0 : IntKind.i64.wrap ((j : Int) - 1) = (jp : Int) := by rw [show (j : Int) - 1 = (jp : Int) by omega]; exact IntWalk.i64_in _ ⟨by omega, by have := HMC.out.2.2; omega⟩
            have hjm : jp < m := by omega
            have HJP := Lib.hid hjp
            have HJ0 := Lib.hid hj0
            have HHAC := Lib.hid hac
            have HFC := Lib.hid (fun (W : World) (h : Below w2.heap.size w2 W) => show (W.cell? ⟨b0, off + j * 3, none⟩ = some (.int .i64 ev.at_) ∧ W.cell? ⟨b0, off + jp * 3, none⟩ = some (.int .i64 T.lt) ∧ W.cell? ⟨bi, oi + j, none⟩ = some (.int .i64 idv)) from
              ⟨(HCL.out W h).1, by have := HPV.out HJ0.out W h; rw [HJP.out] at this; exact this, ((ext_trans HW2.out h).cell (p := ⟨bi, oi + j, none⟩) hbi).trans ci0⟩)
            clear hib hj0 hlta hac hil hci hjd hidv ci0 hr hr0 hr1 hbt htk hjp
            go_upto_region 11 with fail
            have HSD := Lib.hid (HSP.out.below (below_drew (Below.refl _ _)))
            have hS0 := HFC.out _ HSD.out.2.2.2.2.2.2
            refine rgs_start (fun W => W.cell? ⟨b0, off + j * 3, none⟩ = some (.int .i64 ev.at_) ∧ W.cell? ⟨b0, off + jp * 3, none⟩ = some (.int .i64 T.lt) ∧ W.cell? ⟨bi, oi + j, none⟩ = some (.int .i64 idv)) (by kernel_rfl) ?_
            refine rgs_t (v := ?_) (some 72) 0 (by kernel_rfl) rfl rfl (by assumption) (.inl ⟨by rfl, fun w' hw => ?_⟩) ?_
            rotate_left
            · obtain ⟨q1, q2, q3⟩ := hw; go_simp <;> with_reducible rfl
            try simp only [Act.put, List.setIfInBounds_toArray, List.set_cons_zero, List.set_cons_succ]
            refine rgs_t (v := ?_) (some 73) 1 (by kernel_rfl) rfl rfl (by assumption) (.inl ⟨by rfl, fun w' hw => ?_⟩) ?_
            rotate_left
            · obtain ⟨q1, q2, q3⟩ := hw; go_simp <;> with_reducible rfl
            try simp only [Act.put, List.setIfInBounds_toArray, List.set_cons_zero, List.set_cons_succ]
            refine rgs_t (v := ?_) (some 74) 2 (by kernel_rfl) rfl rfl (by assumption) (.inl ⟨by rfl, fun w' hw => ?_⟩) ?_
            rotate_left
            · obtain ⟨q1, q2, q3⟩ := hw; go_simp <;> with_reducible rfl
            try simp only [Act.put, List.setIfInBounds_toArray, List.set_cons_zero, List.set_cons_succ]
            refine rgs_t (v := ?_) (some 75) 3 (by kernel_rfl) rfl rfl (by assumption) (.inl ⟨by rfl, fun w' hw => ?_⟩) ?_
            rotate_left
            · obtain ⟨q1, q2, q3⟩ := hw; go_simp <;> with_reducible rfl
            try simp only [Act.put, List.setIfInBounds_toArray, List.set_cons_zero, List.set_cons_succ]
            refine rgs_t (v := ?_) (some 76) 4 (by kernel_rfl) rfl rfl (by assumption) (.inl ⟨by rfl, fun w' hw => ?_⟩) ?_
            rotate_left
            · obtain ⟨q1, q2, q3⟩ := hw; go_simp <;> with_reducible rfl
            try simp only [Act.put, List.setIfInBounds_toArray, List.set_cons_zero, List.set_cons_succ]
            refine rgs_t (v := ?_) (some 77) 5 (by kernel_rfl) rfl rfl (by assumption) (.inl ⟨by rfl, fun w' hw => ?_⟩) ?_
            rotate_left
            · obtain ⟨q1, q2, q3⟩ := hw; go_simp <;> with_reducible rfl
            try simp only [Act.put, List.setIfInBounds_toArray, List.set_cons_zero, List.set_cons_succ]
            refine rgs_t (v := ?_) (some 78) 6 (by kernel_rfl) rfl rfl (by assumption) (.inl ⟨by rfl, fun w' hw => ?_⟩) ?_
            rotate_left
            · obtain ⟨q1, q2, q3⟩ := hw; go_simp <;> with_reducible rfl
            try simp only [Act.put, List.setIfInBounds_toArray, List.set_cons_zero, List.set_cons_succ]
            refine rgs_t (v := ?_) (some 79) 7 (by kernel_rfl) rfl rfl (by assumption) (.inl ⟨by rfl, fun w' hw => ?_⟩) ?_
            rotate_left
            · obtain ⟨q1, q2, q3⟩ := hw; go_simp <;> with_reducible rfl
            try simp only [Act.put, List.setIfInBounds_toArray, List.set_cons_zero, List.set_cons_succ]
            refine rgs_t (v := ?_) (some 80) 8 (by kernel_rfl) rfl rfl (by assumption) (.inl ⟨by rfl, fun w' hw => ?_⟩) ?_
            rotate_left
            · obtain ⟨q1, q2, q3⟩ := hw; go_simp <;> with_reducible rfl
            try simp only [Act.put, List.setIfInBounds_toArray, List.set_cons_zero, List.set_cons_succ]
            refine rgs_t (v := ?_) (some 81) 9 (by kernel_rfl) rfl rfl (by assumption) (.inl ⟨by rfl, fun w' hw => ?_⟩) ?_
            rotate_left
            · obtain ⟨q1, q2, q3⟩ := hw; go_simp <;> with_reducible rfl
            try simp only [Act.put, List.setIfInBounds_toArray, List.set_cons_zero, List.set_cons_succ]
            refine rgs_t (v := ?_) (some 82) 10 (by kernel_rfl) rfl rfl (by assumption) (.inl ⟨by rfl, fun w' hw => ?_⟩) ?_
            rotate_left
            · obtain ⟨q1, q2, q3⟩ := hw; go_simp <;> with_reducible rfl
            try simp only [Act.put, List.setIfInBounds_toArray, List.set_cons_zero, List.set_cons_succ]
            refine rgs_t (v := ?_) (some 83) 11 (by kernel_rfl) rfl rfl (by assumption) (.inl ⟨by rfl, fun w' hw => ?_⟩) ?_
            rotate_left
            · obtain ⟨q1, q2, q3⟩ := hw; go_simp <;> with_reducible rfl
            try simp only [Act.put, List.setIfInBounds_toArray, List.set_cons_zero, List.set_cons_succ]
            refine rgs_t (v := ?_) (some 84) 12 (by kernel_rfl) rfl rfl (by assumption) (.inl ⟨by rfl, fun w' hw => ?_⟩) ?_
            rotate_left
            · obtain ⟨q1, q2, q3⟩ := hw; go_simp <;> with_reducible rfl
            try simp only [Act.put, List.setIfInBounds_toArray, List.set_cons_zero, List.set_cons_succ]
            refine rgs_t (v := ?_) (some 85) 13 (by kernel_rfl) rfl rfl (by assumption) (.inl ⟨by rfl, fun w' hw => ?_⟩) ?_
            rotate_left
            · obtain ⟨q1, q2, q3⟩ := hw; go_simp <;> with_reducible rfl
            try simp only [Act.put, List.setIfInBounds_toArray, List.set_cons_zero, List.set_cons_succ]
            refine rgs_t (v := ?_) (some 86) 14 (by kernel_rfl) rfl rfl (by assumption) (.inl ⟨by rfl, fun w' hw => ?_⟩) ?_
            rotate_left
            · obtain ⟨q1, q2, q3⟩ := hw; go_simp <;> with_reducible rfl
            try simp only [Act.put, List.setIfInBounds_toArray, List.set_cons_zero, List.set_cons_succ]
            refine rgs_t (v := ?_) (some 87) 15 (by kernel_rfl) rfl rfl (by assumption) (.inl ⟨by rfl, fun w' hw => ?_⟩) ?_
            rotate_left
            · obtain ⟨q1, q2, q3⟩ := hw; go_simp <;> with_reducible rfl
            try simp only [Act.put, List.setIfInBounds_toArray, List.set_cons_zero, List.set_cons_succ]
            refine rgs_t (v := ?_) (some 88) 16 (by kernel_rfl) rfl rfl (by assumption) (.inl ⟨by rfl, fun w' hw => ?_⟩) ?_
            rotate_left
            · obtain ⟨q1, q2, q3⟩ := hw; go_simp <;> with_reducible rfl
            try simp only [Act.put, List.setIfInBounds_toArray, List.set_cons_zero, List.set_cons_succ]
            refine rgs_t (v := ?_) (some 89) 17 (by kernel_rfl) rfl rfl (by assumption) (.inl ⟨by rfl, fun w' hw => ?_⟩) ?_
            rotate_left
            · obtain ⟨q1, q2, q3⟩ := hw; go_simp <;> with_reducible rfl
            try simp only [Act.put, List.setIfInBounds_toArray, List.set_cons_zero, List.set_cons_succ]
            refine rgs_t (v := ?_) (some 90) 18 (by kernel_rfl) rfl rfl (by assumption) (.inl ⟨by rfl, fun w' hw => ?_⟩) ?_
            rotate_left
            · obtain ⟨q1, q2, q3⟩ := hw; go_simp <;> with_reducible rfl
            try simp only [Act.put, List.setIfInBounds_toArray, List.set_cons_zero, List.set_cons_succ]
            refine rgs_t (v := ?_) (some 91) 19 (by kernel_rfl) rfl rfl (by assumption) (.inl ⟨by rfl, fun w' hw => ?_⟩) ?_
            rotate_left
            · obtain ⟨q1, q2, q3⟩ := hw; go_simp <;> with_reducible rfl
            try simp only [Act.put, List.setIfInBounds_toArray, List.set_cons_zero, List.set_cons_succ]
            refine rgs_t (v := ?_) (some 92) 20 (by kernel_rfl) rfl rfl (by assumption) (.inl ⟨by rfl, fun w' hw => ?_⟩) ?_
            rotate_left
            · obtain ⟨q1, q2, q3⟩ := hw; go_simp <;> with_reducible rfl
            try simp only [Act.put, List.setIfInBounds_toArray, List.set_cons_zero, List.set_cons_succ]
            refine rgs_t (v := ?_) (some 93) 21 (by kernel_rfl) rfl rfl (by assumption) (.inl ⟨by rfl, fun w' hw => ?_⟩) ?_
            rotate_left
            · obtain ⟨q1, q2, q3⟩ := hw; go_simp <;> with_reducible rfl
            try simp only [Act.put, List.setIfInBounds_toArray, List.set_cons_zero, List.set_cons_succ]
            refine rgs_t (v := ?_) (some 94) 22 (by kernel_rfl) rfl rfl (by assumption) (.inl ⟨by rfl, fun w' hw => ?_⟩) ?_
            rotate_left
            · obtain ⟨q1, q2, q3⟩ := hw; go_simp <;> with_reducible rfl
            try simp only [Act.put, List.setIfInBounds_toArray, List.set_cons_zero, List.set_cons_succ]
            refine rgs_c 23 (by kernel_rfl) rfl (by rfl) (fun K hK => ?_)
            go_simp
            refine (HMD.out _).mono ?_
            rintro e x5 ⟨rfl, rfl⟩
            refine hK _ _ hS0 ?_
            clear hK K
            try simp only [Act.put, List.setIfInBounds_toArray, List.set_cons_zero, List.set_cons_succ]
            refine rgs_t (v := ?_) (some 96) 24 (by kernel_rfl) rfl rfl (by assumption) (.inl ⟨by rfl, fun w' hw => ?_⟩) ?_
            rotate_left
            · obtain ⟨q1, q2, q3⟩ := hw; go_simp <;> with_reducible rfl
            try simp only [Act.put, List.setIfInBounds_toArray, List.set_cons_zero, List.set_cons_succ]
            refine rgs_t (v := ?_) (some 12) 25 (by kernel_rfl) rfl rfl (by assumption) (.inl ⟨by rfl, fun w' hw => ?_⟩) ?_
            rotate_left
            · obtain ⟨q1, q2, q3⟩ := hw; go_simp <;> with_reducible rfl
            try simp only [Act.put, List.setIfInBounds_toArray, List.set_cons_zero, List.set_cons_succ]
            refine rgs_d (by kernel_rfl) ?_
            clear hS0 k0 k1 k2 k3
            by_cases hearly : tk < T.lt + t35 + ch
            · have HID := Lib.hid (fun (W : World) (h : SpSt w2 W g v (.slice Ao l.length co) ch t15 t35 (wid T i0) l) => idle_early ch t15 t35 v T.fi T.la T.fl T.lt i0 tk g W (by have h1 := h.1.1; have h2 := HHAC.out; simp only [wid] at h1; rw [h2] at h1; exact h1) HNB.out.1 (by have := HNB.out; omega) (by have := HNB.out; omega) (by have := HNB.out; omega) (by have := HBT.out; omega) HTK2.out.1 (by have h1 := HI0.out; have h2 := HTK2.out; omega) (by have h1 := HBT.out; have h2 := HTK2.out; omega) hearly)
              clear hearly
              go_wp2_with fail
              refine (HID.out _ HSD.out).mono ?_
              rintro e x6 ⟨rfl, hB6, hg6⟩
              unfold noFrame
              have HS6 := Lib.hid ((HSD.out.idle (S' := wid T tk) (by simp only [wid]; rw [HHAC.out]; exact hB6) rfl hg6).below ((Below.refl _ _).alloc (Nat.le_refl _) (.cells #[.slice none 0 0, .int .i64 0, .int .i64 0, .int .i64 0] 44)))
              clear hB6 hg6
              go_wp2_with fail
              go_meet
              case rel => exact ⟨v, l, Ao, co, wid T tk, rfl, HS6.out, by rw [HLM.out]; exact mid_same ch t15 t35 T tk ev F HTX.out, HTK2.out.2, by have := HL0.out; omega⟩
            · obtain ⟨A2, c2, hv2, _, _⟩ := own_form HSD.out.1.2
              subst hv2
              have HID := Lib.hid (fun (W : World) (h : SpSt w2 W g (.slice A2 T.xs.length c2) (.slice Ao l.length co) ch t15 t35 (wid T i0) l) => idle_take ch t15 t35 A2 T.xs.length c2 T.fi T.la T.fl T.lt i0 tk g W (by have h1 := h.1.1; have h2 := HHAC.out; simp only [wid] at h1; rw [h2] at h1; exact h1) HNB.out.1 (by have := HNB.out; omega) (by have := HNB.out; omega) (by have := HNB.out; omega) (by have := HBT.out; omega) HTK2.out.1 (by have h1 := HI0.out; have h2 := HTK2.out; omega) (by have h1 := HBT.out; have h2 := HTK2.out; omega) (by omega))
              have HLT := Lib.hid (show T.lt + t35 + ch ≤ tk by omega)
              clear hearly
              go_wp2_with fail
              refine (HID.out _ HSD.out).mono ?_
              rintro e x6 ⟨rfl, hB6, hg6⟩
              obtain ⟨hs3, hf3⟩ := HSD.out.end_ (v' := .slice none 0 0) (S' := wid (takeS T) tk) ⟨hB6, rfl, .inl ⟨rfl, rfl⟩⟩ (.inl rfl) ((Chg.refl _ g none).grown hg6 (.inl rfl))
              have hb4 := (Below.refl x6.heap.size x6).alloc (Nat.le_refl _) (.cells #[.slice A2 T.xs.length c2, .int .i64 T.fi, .int .i64 T.la, .int .i64 T.fl] 44)
              have hb5 := (Below.refl _ (x6.alloc (.cells #[.slice A2 T.xs.length c2, .int .i64 T.fi, .int .i64 T.la, .int .i64 T.fl] 44))).alloc (Nat.le_refl _) (.cells #[.slice A2 T.xs.length c2, .int .i64 T.fi, .int .i64 T.la, .int .i64 T.fl] 44)
              have HS5 := Lib.hid ((hs3.below hb4).below hb5)
              have HF5 := Lib.hid ((hf3.below hb4).below hb5)
              obtain ⟨qf, zf, lf⟩ := Box.alloc_ (w := x6) (cs := #[.slice A2 T.xs.length c2, .int .i64 T.fi, .int .i64 T.la, .int .i64 T.fl]) (e := 44)
              clear hB6 hg6 hs3 hf3 hb4 hb5
              go_wp2_with (at_builtin; refine wpList_appN (.tmp 104) (.tmp 106) 29 w2.heap.size 44 _ 4 48 _ l.length (frCells l) (x6.heap.size + 2) (some ⟨x6.heap.size + 1, 0, none⟩) 1 1 _ Try.underlying29 frInfo rfl (by decide) rfl rfl rfl rfl HS5.out.2.1 (by have h := Rd.lit (w := x6.alloc (.cells #[.slice A2 T.xs.length c2, .int .i64 T.fi, .int .i64 T.la, .int .i64 T.fl] 44)) (size := 4) (n := 1) (cs := #[.slice A2 T.xs.length c2, .int .i64 T.fi, .int .i64 T.la, .int .i64 T.fl]) (e := 44) (fz := (0, 0)) (B := x6.heap.size + 2) rfl (by simp); simpa using h) (one_fr ⟨A2, T.xs.length, c2, T.xs, T.fi, T.la, T.fl⟩) (by have := HL0.out; omega) (by omega) (by have := HS5.out.2.2.2.2.2.2.size; exact this) ?_; intro vo' w6 hown6 hg6 hn6 hb6)
              have hs6 := HS5.out.app HF5.out hown6 hg6 hn6
              obtain ⟨Ao', co', hvo, _, _⟩ := own_form hown6
              subst hvo
              have HS6 := Lib.hid hs6
              clear hs6 hown6 hg6 hn6 hb6 qf zf lf
              go_meet
              case rel =>
                have hlen : (l ++ [⟨A2, T.xs.length, c2, T.xs, T.fi, T.la, T.fl⟩] : List Fr).length = l.length + 1 := by simp
                refine ⟨_, l ++ [⟨A2, T.xs.length, c2, T.xs, T.fi, T.la, T.fl⟩], Ao', co', wid (takeS T) tk, by rw [hlen], by rw [hlen]; exact HS6.out, ?_, HTK2.out.2, by rw [hlen]; have := HL0.out; omega⟩
                rw [List.map_append, HLM.out]
                exact mid_take ch t15 t35 T tk ev F (by have := HNB.out; omega) HHAC.out HLT.out HTK2.out.2
        case rest =>
          obtain ⟨v1, l1, A1', c1', S1, rfl, hsp1, hmid, hid1, hl61⟩ := hcut
          have hrn := runS_snoc ch t15 t35 .zero (evs.take j) ev
          rw [← HTK.out, HT2.out, HF2.out] at hrn
          have HRN := Lib.hid hrn
          have HLE := Lib.hid (show lastE 0 (evs.take (j + 1)) = ev.at_ by rw [HTK.out, lastE_snoc])
          obtain ⟨hm1, hm2, hm3, hm4⟩ := hmid
          have hslt : 0 ≤ S1.lt ∧ S1.lt ≤ ev.at_ := by rw [hm1]; exact ⟨HBT.out.2.2, HBT.out.2.1⟩
          have HX1 := Lib.hid (HCL.out wc hsp1.2.2.2.2.2.2)
          have HS1 := Lib.hid hsp1
          have HM3 := Lib.hid hm3
          have HM4 := Lib.hid hm4
          have HID1 := Lib.hid hid1
          have HL61 := Lib.hid hl61
          clear hrn hsp1 hid1 hl61 hm1 hm3 hm4 HSP HLM HIB HL0 HTL HI0
          by_cases he : endS ch t35 S1 ev = true
          · have he2 := he
            simp only [endS, Bool.and_eq_true, decide_eq_true_eq] at he2
            obtain ⟨hac, hse⟩ := he2
            have hst : charS ch t15 t35 S1 ev = addS t15 (takeS S1) (silS ch S1 ev) ev := by rw [charS, if_pos he]
            have hm3 := HM3.out
            have hm4 := HM4.out
            rw [hst] at hm3
            rw [if_pos he] at hm4
            have HA3 := Lib.hid hm3
            have HA4 := Lib.hid hm4
            have HCE := Lib.hid (fun (W : World) (h : SpSt w2 W g v1 (.slice A1' l1.length c1') ch t15 t35 S1 l1) => char_end ch t15 t35 S1.xs _ v1 S1.fi S1.la S1.fl S1.lt S1.id_ ev.at_ ev.val ev.fl _ g W (by have h1 := h.1; rw [hac] at h1; exact h1) rfl HNB.out.1 (by have := HNB.out; omega) hslt.1 HBT.out.1.1 (by have := HBT.out; omega) hslt.2 HID1.out rfl hse)
            clear he hac hse hst hm3 hm4 hslt hm2
            obtain ⟨y0, y1, y2⟩ := HX1.out
            go_wp2_with fail
            refine (HCE.out _ HS1.out).mono ?_
            rintro e w3 ⟨A2, n2, c2, rfl, rfl, v', hR3, hv3, hch3⟩
            obtain ⟨hs3, hf3⟩ := HS1.out.end_ (S' := addS t15 (takeS S1) (silS ch S1 ev) ev) hR3 hv3 hch3
            have hb4 := (Below.refl w3.heap.size w3).alloc (Nat.le_refl _) (.cells #[.slice A2 n2 c2, .int .i64 S1.fi, .int .i64 S1.la, .int .i64 S1.fl] 44)
            have hb5 := (Below.refl _ (w3.alloc (.cells #[.slice A2 n2 c2, .int .i64 S1.fi, .int .i64 S1.la, .int .i64 S1.fl] 44))).alloc (Nat.le_refl _) (.cells #[.slice A2 n2 c2, .int .i64 S1.fi, .int .i64 S1.la, .int .i64 S1.fl] 44)
            have HS5 := Lib.hid ((hs3.below hb4).below hb5)
            have HF5 := Lib.hid ((hf3.below hb4).below hb5)
            obtain ⟨qf, zf, lf⟩ := Box.alloc_ (w := w3) (cs := #[.slice A2 n2 c2, .int .i64 S1.fi, .int .i64 S1.la, .int .i64 S1.fl]) (e := 44)
            clear hR3 hv3 hch3 hs3 hf3 hb4 hb5 y0 y1 y2
            go_wp2_with (at_builtin; refine wpList_appN (.tmp 121) (.tmp 123) 29 w2.heap.size 44 _ 4 48 _ l1.length (frCells l1) (w3.heap.size + 2) (some ⟨w3.heap.size + 1, 0, none⟩) 1 1 _ Try.underlying29 frInfo rfl (by decide) rfl rfl rfl rfl HS5.out.2.1 (by have h := Rd.lit (w := w3.alloc (.cells #[.slice A2 n2 c2, .int .i64 S1.fi, .int .i64 S1.la, .int .i64 S1.fl] 44)) (size := 4) (n := 1) (cs := #[.slice A2 n2 c2, .int .i64 S1.fi, .int .i64 S1.la, .int .i64 S1.fl]) (e := 44) (fz := (0, 0)) (B := w3.heap.size + 2) rfl (by simp); simpa using h) (one_fr ⟨A2, n2, c2, S1.xs, S1.fi, S1.la, S1.fl⟩) (by have := HL61.out; omega) (by omega) (by have := HS5.out.2.2.2.2.2.2.size; exact this) ?_; intro vo' w6 hown6 hg6 hn6 hb6)
            have hs6 := HS5.out.app HF5.out hown6 hg6 hn6
            obtain ⟨Ao', co', hvo, _, _⟩ := own_form hown6
            subst hvo
            have HS6 := Lib.hid hs6
            clear hs6 hown6 hg6 hn6 hb6 qf zf lf
            have hm60 := HMC.out.2.2
            have hlt9 := HLT.out
            go_roundw
            case rel => exact ⟨j + 1, v', l1 ++ [⟨A2, n2, c2, S1.xs, S1.fi, S1.la, S1.fl⟩], Ao', co', S1.id_, by simp, by go_num, by have := HLT.out; omega, by rw [HLE.out]; exact HID1.out, by rw [HRN.out, ← HA3.out, List.length_append]; exact HS6.out, by rw [HRN.out, List.map_append]; exact HA4.out⟩
            case measure => simp [intOf]; have := HLT.out; omega
          · have hno : S1.ac = false ∨ silS ch S1 ev < t35 := by
              simp only [endS, Bool.and_eq_true, decide_eq_true_eq] at he
              cases hac : S1.ac
              · exact .inl rfl
              · exact .inr (by rw [hac] at he; simp at he; omega)
            have hst : charS ch t15 t35 S1 ev = addS t15 S1 (silS ch S1 ev) ev := by rw [charS, if_neg he]
            have hm3 := HM3.out
            have hm4 := HM4.out
            rw [hst] at hm3
            rw [if_neg he, List.append_nil] at hm4
            have HA3 := Lib.hid hm3
            have HA4 := Lib.hid hm4
            have HCK := Lib.hid (fun (W : World) (h : SpSt w2 W g v1 (.slice A1' l1.length c1') ch t15 t35 S1 l1) => char_keep ch t15 t35 S1.xs _ _ _ v1 S1.fi S1.la S1.fl S1.ac S1.lt S1.id_ ev.at_ ev.val ev.fl _ g W h.1 hm2 rfl rfl rfl HNB.out.1 (by have := HNB.out; omega) hslt.1 HBT.out.1.1 (by have := HBT.out; omega) hslt.2 HID1.out rfl hno)
            clear he hno hst hm3 hm4 hslt hm2
            obtain ⟨y0, y1, y2⟩ := HX1.out
            go_wp2_with fail
            refine (HCK.out _ HS1.out).mono ?_
            rintro e w3 ⟨rfl, v', hR3, hv3, hch3⟩
            unfold noFrame
            have HS3 := Lib.hid ((HS1.out.keep (S' := addS t15 S1 (silS ch S1 ev) ev) hR3 hv3 hch3).below ((Below.refl _ _).alloc (Nat.le_refl _) (.cells #[.slice none 0 0, .int .i64 0, .int .i64 0, .int .i64 0] 44)))
            clear hR3 hv3 hch3 y0 y1 y2
            go_wp2_with fail
            have hm60 := HMC.out.2.2
            have hlt9 := HLT.out
            go_roundw
            case rel => exact ⟨j + 1, v', l1, A1', c1', S1.id_, rfl, by go_num, by have := HLT.out; omega, by rw [HLE.out]; exact HID1.out, by rw [HRN.out, ← HA3.out]; exact HS3.out, by rw [HRN.out]; exact HA4.out⟩
            case measure => simp [intOf]; have := HLT.out; omega
    · obtain rfl : j = m := by omega
      have hta : evs.take j = evs := List.take_of_length_le (by rw [HML.out]; exact Nat.le_refl _)
      rw [hta] at HTL HT2 HF2
      have hfr : framesS ch t15 t35 evs = F ++ (if T.ac then [T.frame] else []) := by rw [framesS, HT2.out, HF2.out]
      have HFR := Lib.hid hfr
      have htl0 : 0 ≤ T.lt ∧ T.lt ≤ 1200000 := by
        rw [HTL.out]
        refine ⟨lastE_nonneg 0 _ (Int.le_refl _) HIN.out, ?_⟩
        rcases List.eq_nil_or_concat evs with h | ⟨t, e, h⟩
        · rw [h]; simp [lastE]
        · have := HBD.out e (by rw [h]; simp)
          rw [h, List.concat_eq_append, lastE_snoc]; exact this.2
      have HTB := Lib.hid htl0
      have HDL := Lib.hid (fun (W : World) (v : Value) (i : Int) (h : Box W g (rcvCells ch t15 t35 v T.fi T.la T.fl T.ac T.lt i)) => show Calls Try.prog 21 #[iptr g] W (fun e w' => e = .returned (.tuple #[.int .i64 (if T.ac then T.lt + t35 + ch else 0), .bool T.ac]) ∧ Below W.heap.size W w') from deadline_any ch t15 t35 v T.fi T.la T.fl T.ac T.lt i g W h HNB.out.1 (by have := HNB.out; omega) (by have := HNB.out; omega) (by have := HNB.out; omega) htl0.1 (by omega))
      clear hta hfr htl0 hlt hj
      go_wp2_with fail
      refine (HDL.out _ _ _ HSP.out.1.1).mono ?_
      rintro e w4 ⟨rfl, hb4⟩
      have HSP4 := Lib.hid (HSP.out.below hb4)
      clear hb4
      obtain ⟨dd, hdd⟩ : ∃ d, T.lt + t35 + ch = d := ⟨_, rfl⟩
      rw [hdd]
      have HDD := Lib.hid hdd
      have HJ60 := Lib.hid (show j ≤ 60 from HMC.out.2.2)
      have hz0 : j = 0 → T.ac = false := fun h => by
        have h2 : evs = [] := List.eq_nil_of_length_eq_zero (by rw [← HML.out]; exact h)
        rw [← HT2.out, h2]; rfl
      have hz1 : 0 < j → T.ac = true := fun h => HAC.out h (by rw [← HML.out]; exact Nat.le_refl _)
      have HZ0 := Lib.hid hz0
      have HZ1 := Lib.hid hz1
      obtain ⟨ta, hta⟩ : ∃ z, T.ac = z := ⟨_, rfl⟩
      rw [hta]
      have HTA := Lib.hid hta
      obtain ⟨d0, hd0⟩ : ∃ d, (if ta = true then dd else 0) = d := ⟨_, rfl⟩
      rw [hd0]
      have HD0 := Lib.hid hd0
      clear hdd hz0 hz1 hta hd0
      go_upto_region 21 with fail
      go_cut [154] (fun u x => u = .bool false ∧ SpSt w2 x g v (.slice Ao l.length co) ch t15 t35 (wid T i0) l)
      case first =>
        have HSD := Lib.hid (HSP4.out.below (below_drew (Below.refl _ _)))
        by_cases hj0 : j = 0
        · have hac := HZ0.out hj0
          have d1 : decide (0 < (j : Int)) = false := by simp; omega
          have d1n : decide (0 < j) = false := by simp; omega
          have hS0 : True ∧ True ∧ True := ⟨trivial, trivial, trivial⟩
          obtain rfl : ta = false := by rw [← HTA.out]; exact hac
          clear hac hj0
          refine rgs_start (fun W => True ∧ True ∧ True) (by kernel_rfl) ?_
          refine rgs_t (v := ?_) (some 130) 0 (by kernel_rfl) rfl rfl (by assumption) (.inl ⟨by rfl, fun w' hw => ?_⟩) ?_
          rotate_left
          · obtain ⟨q1, q2, q3⟩ := hw; go_simp <;> with_reducible rfl
          try simp only [Act.put, List.setIfInBounds_toArray, List.set_cons_zero, List.set_cons_succ]
          refine rgs_t (v := ?_) (some 131) 1 (by kernel_rfl) rfl rfl (by assumption) (.inl ⟨by rfl, fun w' hw => ?_⟩) ?_
          rotate_left
          · obtain ⟨q1, q2, q3⟩ := hw; go_simp <;> with_reducible rfl
          try simp only [Act.put, List.setIfInBounds_toArray, List.set_cons_zero, List.set_cons_succ]
          refine rgs_t (v := ?_) (some 132) 2 (by kernel_rfl) rfl rfl (by assumption) (.inl ⟨by rfl, fun w' hw => ?_⟩) ?_
          rotate_left
          · obtain ⟨q1, q2, q3⟩ := hw; go_simp <;> with_reducible rfl
          try simp only [Act.put, List.setIfInBounds_toArray, List.set_cons_zero, List.set_cons_succ]
          refine rgs_t (v := ?_) (some 133) 3 (by kernel_rfl) rfl rfl (by assumption) (.inl ⟨by rfl, fun w' hw => ?_⟩) ?_
          rotate_left
          · obtain ⟨q1, q2, q3⟩ := hw; go_simp <;> with_reducible rfl
          try simp only [Act.put, List.setIfInBounds_toArray, List.set_cons_zero, List.set_cons_succ]
          refine rgs_t (v := ?_) (some 134) 4 (by kernel_rfl) rfl rfl (by assumption) (.inl ⟨by rfl, fun w' hw => ?_⟩) ?_
          rotate_left
          · obtain ⟨q1, q2, q3⟩ := hw; go_simp <;> with_reducible rfl
          try simp only [Act.put, List.setIfInBounds_toArray, List.set_cons_zero, List.set_cons_succ]
          refine rgs_t (v := ?_) (some 135) 5 (by kernel_rfl) rfl rfl (by assumption) (.inl ⟨by rfl, fun w' hw => ?_⟩) ?_
          rotate_left
          · obtain ⟨q1, q2, q3⟩ := hw; go_simp <;> with_reducible rfl
          try simp only [Act.put, List.setIfInBounds_toArray, List.set_cons_zero, List.set_cons_succ]
          refine rgs_t (v := ?_) (some 136) 6 (by kernel_rfl) rfl rfl (by assumption) (.inl ⟨by rfl, fun w' hw => ?_⟩) ?_
          rotate_left
          · obtain ⟨q1, q2, q3⟩ := hw; go_simp <;> with_reducible rfl
          try simp only [Act.put, List.setIfInBounds_toArray, List.set_cons_zero, List.set_cons_succ]
          refine rgs_t (v := ?_) (some 137) 7 (by kernel_rfl) rfl rfl (by assumption) (.inl ⟨by rfl, fun w' hw => ?_⟩) ?_
          rotate_left
          · obtain ⟨q1, q2, q3⟩ := hw; go_simp <;> with_reducible rfl
          try simp only [Act.put, List.setIfInBounds_toArray, List.set_cons_zero, List.set_cons_succ]
          refine rgs_t (some 138) 8 (by kernel_rfl) rfl rfl (by assumption) (.inr ⟨by rfl, rfl⟩) ?_
          try simp only [Act.put, List.setIfInBounds_toArray, List.set_cons_zero, List.set_cons_succ]
          refine rgs_t (some 139) 9 (by kernel_rfl) rfl rfl (by assumption) (.inr ⟨by rfl, rfl⟩) ?_
          try simp only [Act.put, List.setIfInBounds_toArray, List.set_cons_zero, List.set_cons_succ]
          refine rgs_t (some 140) 10 (by kernel_rfl) rfl rfl (by assumption) (.inr ⟨by rfl, rfl⟩) ?_
          try simp only [Act.put, List.setIfInBounds_toArray, List.set_cons_zero, List.set_cons_succ]
          refine rgs_t (some 141) 11 (by kernel_rfl) rfl rfl (by assumption) (.inr ⟨by rfl, rfl⟩) ?_
          try simp only [Act.put, List.setIfInBounds_toArray, List.set_cons_zero, List.set_cons_succ]
          refine rgs_t (some 142) 12 (by kernel_rfl) rfl rfl (by assumption) (.inr ⟨by rfl, rfl⟩) ?_
          try simp only [Act.put, List.setIfInBounds_toArray, List.set_cons_zero, List.set_cons_succ]
          refine rgs_t (some 143) 13 (by kernel_rfl) rfl rfl (by assumption) (.inr ⟨by rfl, rfl⟩) ?_
          try simp only [Act.put, List.setIfInBounds_toArray, List.set_cons_zero, List.set_cons_succ]
          refine rgs_t (some 144) 14 (by kernel_rfl) rfl rfl (by assumption) (.inr ⟨by rfl, rfl⟩) ?_
          try simp only [Act.put, List.setIfInBounds_toArray, List.set_cons_zero, List.set_cons_succ]
          refine rgs_t (some 145) 15 (by kernel_rfl) rfl rfl (by assumption) (.inr ⟨by rfl, rfl⟩) ?_
          try simp only [Act.put, List.setIfInBounds_toArray, List.set_cons_zero, List.set_cons_succ]
          refine rgs_t (some 146) 16 (by kernel_rfl) rfl rfl (by assumption) (.inr ⟨by rfl, rfl⟩) ?_
          try simp only [Act.put, List.setIfInBounds_toArray, List.set_cons_zero, List.set_cons_succ]
          refine rgs_t (some 147) 17 (by kernel_rfl) rfl rfl (by assumption) (.inr ⟨by rfl, rfl⟩) ?_
          try simp only [Act.put, List.setIfInBounds_toArray, List.set_cons_zero, List.set_cons_succ]
          refine rgs_t (some 148) 18 (by kernel_rfl) rfl rfl (by assumption) (.inr ⟨by rfl, rfl⟩) ?_
          try simp only [Act.put, List.setIfInBounds_toArray, List.set_cons_zero, List.set_cons_succ]
          refine rgs_t (some 149) 19 (by kernel_rfl) rfl rfl (by assumption) (.inr ⟨by rfl, rfl⟩) ?_
          try simp only [Act.put, List.setIfInBounds_toArray, List.set_cons_zero, List.set_cons_succ]
          refine rgs_t (some 150) 20 (by kernel_rfl) rfl rfl (by assumption) (.inr ⟨by rfl, rfl⟩) ?_
          try simp only [Act.put, List.setIfInBounds_toArray, List.set_cons_zero, List.set_cons_succ]
          refine rgs_t (some 151) 21 (by kernel_rfl) rfl rfl (by assumption) (.inr ⟨by rfl, rfl⟩) ?_
          try simp only [Act.put, List.setIfInBounds_toArray, List.set_cons_zero, List.set_cons_succ]
          refine rgs_t (some 152) 22 (by kernel_rfl) rfl rfl (by assumption) (.inr ⟨by rfl, rfl⟩) ?_
          try simp only [Act.put, List.setIfInBounds_toArray, List.set_cons_zero, List.set_cons_succ]
          refine rgs_t (v := ?_) (some 153) 23 (by kernel_rfl) rfl rfl (by assumption) (.inl ⟨by rfl, fun w' hw => ?_⟩) ?_
          rotate_left
          · obtain ⟨q1, q2, q3⟩ := hw; go_simp <;> with_reducible rfl
          try simp only [Act.put, List.setIfInBounds_toArray, List.set_cons_zero, List.set_cons_succ]
          refine rgs_t (v := ?_) (some 154) 24 (by kernel_rfl) rfl rfl (by assumption) (.inl ⟨by rfl, fun w' hw => ?_⟩) ?_
          rotate_left
          · obtain ⟨q1, q2, q3⟩ := hw; go_simp <;> with_reducible rfl
          try simp only [Act.put, List.setIfInBounds_toArray, List.set_cons_zero, List.set_cons_succ]
          refine rgs_d (by kernel_rfl) ?_
          go_wp2_with fail
          go_meet
          case rel => exact ⟨by trivial, HSD.out⟩
        · have hac := HZ1.out (by omega)
          have d1 : decide (0 < (j : Int)) = true := by simp; omega
          have d1n : decide (0 < j) = true := by simp; omega
          obtain ⟨jp, hjp⟩ : ∃ jp, j = jp + 1 := ⟨j - 1, by omega⟩
          have hjm : jp < j := by omega
          have k0 : IntKind.i64.wrap ((j : Int) - 1) = (jp : Int) := by rw [show (j : Int) - 1 = (jp : Int) by omega]; exact IntWalk.i64_in _ ⟨by omega, by have := HJ60.out; omega⟩
          obtain ⟨u1, hu1⟩ : ∃ u, T.lt + t35 = u := ⟨_, rfl⟩
          have k1 : IntKind.i64.wrap (T.lt + t35) = u1 := by rw [hu1]; exact IntWalk.i64_in _ ⟨by have := HTB.out; have := HNB.out; omega, by have := HTB.out; have := HNB.out; omega⟩
          have k2 : IntKind.i64.wrap (u1 + ch) = dd := by rw [← hu1, HDD.out]; exact IntWalk.i64_in _ ⟨by have := HDD.out; have := HTB.out; have := HNB.out; omega, by have := HDD.out; have := HTB.out; have := HNB.out; omega⟩
          have hjl : jp < evs.length := by rw [← HML.out]; exact hjm
          have h5 : T.lt = evs[jp].at_ := by
            rw [HTL.out]
            have h6 := List.take_succ_eq_append_getElem hjl
            rw [← hjp, List.take_of_length_le (by rw [HML.out]; exact Nat.le_refl _)] at h6
            have h7 := congrArg (lastE 0) h6
            rw [lastE_snoc] at h7
            exact h7
          obtain ⟨b0, off, hA0, _⟩ := HR2.out.2 (by omega)
          subst hA0
          have HFC := Lib.hid (fun (W : World) (h : Below w2.heap.size w2 W) => show (W.cell? ⟨b0, off + jp * 3, none⟩ = some (.int .i64 T.lt) ∧ W.cell? ⟨g7, 0, none⟩ = some (.int .i64 b) ∧ W.cell? ⟨g7, 1, none⟩ = some (.int .i64 p)) from by
            obtain ⟨b3, off3, hA3, _, hk3, d0, _, _⟩ := ev_at (HR2.out.below h (Nat.le_refl _)) jp hjm
            injection hA3 with hA3
            injection hA3 with e1 e2
            subst e1 e2
            have hbx := HB2.out.below h
            rw [h5]
            exact ⟨d0, hbx.1 0, hbx.1 1⟩)
          have hS0 := HFC.out _ HSD.out.2.2.2.2.2.2
          have HBC := Lib.hid HSD.out.2.2.2.2.2.2
          obtain rfl : ta = true := by rw [← HTA.out]; exact hac
          obtain rfl : d0 = dd := by rw [← HD0.out]; rfl
          clear hac hjp hu1 hjl h5 hj0
          refine rgs_start (fun W => W.cell? ⟨b0, off + jp * 3, none⟩ = some (.int .i64 T.lt) ∧ W.cell? ⟨g7, 0, none⟩ = some (.int .i64 b) ∧ W.cell? ⟨g7, 1, none⟩ = some (.int .i64 p)) (by kernel_rfl) ?_
          refine rgs_t (v := ?_) (some 130) 0 (by kernel_rfl) rfl rfl (by assumption) (.inl ⟨by rfl, fun w' hw => ?_⟩) ?_
          rotate_left
          · obtain ⟨q1, q2, q3⟩ := hw; go_simp <;> with_reducible rfl
          try simp only [Act.put, List.setIfInBounds_toArray, List.set_cons_zero, List.set_cons_succ]
          refine rgs_t (v := ?_) (some 131) 1 (by kernel_rfl) rfl rfl (by assumption) (.inl ⟨by rfl, fun w' hw => ?_⟩) ?_
          rotate_left
          · obtain ⟨q1, q2, q3⟩ := hw; go_simp <;> with_reducible rfl
          try simp only [Act.put, List.setIfInBounds_toArray, List.set_cons_zero, List.set_cons_succ]
          refine rgs_t (v := ?_) (some 132) 2 (by kernel_rfl) rfl rfl (by assumption) (.inl ⟨by rfl, fun w' hw => ?_⟩) ?_
          rotate_left
          · obtain ⟨q1, q2, q3⟩ := hw; go_simp <;> with_reducible rfl
          try simp only [Act.put, List.setIfInBounds_toArray, List.set_cons_zero, List.set_cons_succ]
          refine rgs_t (v := ?_) (some 133) 3 (by kernel_rfl) rfl rfl (by assumption) (.inl ⟨by rfl, fun w' hw => ?_⟩) ?_
          rotate_left
          · obtain ⟨q1, q2, q3⟩ := hw; go_simp <;> with_reducible rfl
          try simp only [Act.put, List.setIfInBounds_toArray, List.set_cons_zero, List.set_cons_succ]
          refine rgs_t (v := ?_) (some 134) 4 (by kernel_rfl) rfl rfl (by assumption) (.inl ⟨by rfl, fun w' hw => ?_⟩) ?_
          rotate_left
          · obtain ⟨q1, q2, q3⟩ := hw; go_simp <;> with_reducible rfl
          try simp only [Act.put, List.setIfInBounds_toArray, List.set_cons_zero, List.set_cons_succ]
          refine rgs_t (v := ?_) (some 135) 5 (by kernel_rfl) rfl rfl (by assumption) (.inl ⟨by rfl, fun w' hw => ?_⟩) ?_
          rotate_left
          · obtain ⟨q1, q2, q3⟩ := hw; go_simp <;> with_reducible rfl
          try simp only [Act.put, List.setIfInBounds_toArray, List.set_cons_zero, List.set_cons_succ]
          refine rgs_t (v := ?_) (some 136) 6 (by kernel_rfl) rfl rfl (by assumption) (.inl ⟨by rfl, fun w' hw => ?_⟩) ?_
          rotate_left
          · obtain ⟨q1, q2, q3⟩ := hw; go_simp <;> with_reducible rfl
          try simp only [Act.put, List.setIfInBounds_toArray, List.set_cons_zero, List.set_cons_succ]
          refine rgs_t (v := ?_) (some 137) 7 (by kernel_rfl) rfl rfl (by assumption) (.inl ⟨by rfl, fun w' hw => ?_⟩) ?_
          rotate_left
          · obtain ⟨q1, q2, q3⟩ := hw; go_simp <;> with_reducible rfl
          try simp only [Act.put, List.setIfInBounds_toArray, List.set_cons_zero, List.set_cons_succ]
          refine rgs_t (v := ?_) (some 138) 8 (by kernel_rfl) rfl rfl (by assumption) (.inl ⟨by rfl, fun w' hw => ?_⟩) ?_
          rotate_left
          · obtain ⟨q1, q2, q3⟩ := hw; go_simp <;> with_reducible rfl
          try simp only [Act.put, List.setIfInBounds_toArray, List.set_cons_zero, List.set_cons_succ]
          refine rgs_t (v := ?_) (some 139) 9 (by kernel_rfl) rfl rfl (by assumption) (.inl ⟨by rfl, fun w' hw => ?_⟩) ?_
          rotate_left
          · obtain ⟨q1, q2, q3⟩ := hw; go_simp <;> with_reducible rfl
          try simp only [Act.put, List.setIfInBounds_toArray, List.set_cons_zero, List.set_cons_succ]
          refine rgs_t (v := ?_) (some 140) 10 (by kernel_rfl) rfl rfl (by assumption) (.inl ⟨by rfl, fun w' hw => ?_⟩) ?_
          rotate_left
          · obtain ⟨q1, q2, q3⟩ := hw; go_simp <;> with_reducible rfl
          try simp only [Act.put, List.setIfInBounds_toArray, List.set_cons_zero, List.set_cons_succ]
          refine rgs_t (v := ?_) (some 141) 11 (by kernel_rfl) rfl rfl (by assumption) (.inl ⟨by rfl, fun w' hw => ?_⟩) ?_
          rotate_left
          · obtain ⟨q1, q2, q3⟩ := hw; go_simp <;> with_reducible rfl
          try simp only [Act.put, List.setIfInBounds_toArray, List.set_cons_zero, List.set_cons_succ]
          refine rgs_t (v := ?_) (some 142) 12 (by kernel_rfl) rfl rfl (by assumption) (.inl ⟨by rfl, fun w' hw => ?_⟩) ?_
          rotate_left
          · obtain ⟨q1, q2, q3⟩ := hw; go_simp <;> with_reducible rfl
          try simp only [Act.put, List.setIfInBounds_toArray, List.set_cons_zero, List.set_cons_succ]
          refine rgs_t (v := ?_) (some 143) 13 (by kernel_rfl) rfl rfl (by assumption) (.inl ⟨by rfl, fun w' hw => ?_⟩) ?_
          rotate_left
          · obtain ⟨q1, q2, q3⟩ := hw; go_simp <;> with_reducible rfl
          try simp only [Act.put, List.setIfInBounds_toArray, List.set_cons_zero, List.set_cons_succ]
          refine rgs_t (v := ?_) (some 144) 14 (by kernel_rfl) rfl rfl (by assumption) (.inl ⟨by rfl, fun w' hw => ?_⟩) ?_
          rotate_left
          · obtain ⟨q1, q2, q3⟩ := hw; go_simp <;> with_reducible rfl
          try simp only [Act.put, List.setIfInBounds_toArray, List.set_cons_zero, List.set_cons_succ]
          refine rgs_t (v := ?_) (some 145) 15 (by kernel_rfl) rfl rfl (by assumption) (.inl ⟨by rfl, fun w' hw => ?_⟩) ?_
          rotate_left
          · obtain ⟨q1, q2, q3⟩ := hw; go_simp <;> with_reducible rfl
          try simp only [Act.put, List.setIfInBounds_toArray, List.set_cons_zero, List.set_cons_succ]
          refine rgs_t (v := ?_) (some 146) 16 (by kernel_rfl) rfl rfl (by assumption) (.inl ⟨by rfl, fun w' hw => ?_⟩) ?_
          rotate_left
          · obtain ⟨q1, q2, q3⟩ := hw; go_simp <;> with_reducible rfl
          try simp only [Act.put, List.setIfInBounds_toArray, List.set_cons_zero, List.set_cons_succ]
          refine rgs_t (v := ?_) (some 149) 19 (by kernel_rfl) rfl rfl (by assumption) (.inl ⟨by rfl, fun w' hw => ?_⟩) ?_
          rotate_left
          · obtain ⟨q1, q2, q3⟩ := hw; go_simp <;> with_reducible rfl
          try simp only [Act.put, List.setIfInBounds_toArray, List.set_cons_zero, List.set_cons_succ]
          refine rgs_c 17 (by kernel_rfl) rfl (by rfl) (fun K hK => ?_)
          go_simp
          refine (HT.out _).mono ?_
          rintro e x5 ⟨rfl, hb5⟩
          have HSD := Lib.hid (HSD.out.below hb5)
          have hS5 := HFC.out _ HSD.out.2.2.2.2.2.2
          refine hK _ _ hS5 ?_
          clear hb5 hS0
          clear hK K
          try simp only [Act.put, List.setIfInBounds_toArray, List.set_cons_zero, List.set_cons_succ]
          refine rgs_t (v := ?_) (some 148) 18 (by kernel_rfl) rfl rfl (by assumption) (.inl ⟨by rfl, fun w' hw => ?_⟩) ?_
          rotate_left
          · obtain ⟨q1, q2, q3⟩ := hw; go_simp <;> with_reducible rfl
          try simp only [Act.put, List.setIfInBounds_toArray, List.set_cons_zero, List.set_cons_succ]
          refine rgs_c 20 (by kernel_rfl) rfl (by rfl) (fun K hK => ?_)
          go_simp
          refine (HC.out _).mono ?_
          rintro e x6 ⟨rfl, hb6⟩
          have HSD := Lib.hid (HSD.out.below hb6)
          have hS6 := HFC.out _ HSD.out.2.2.2.2.2.2
          refine hK _ _ hS6 ?_
          clear hb6 hS5
          clear hK K
          try simp only [Act.put, List.setIfInBounds_toArray, List.set_cons_zero, List.set_cons_succ]
          refine rgs_t (v := ?_) (some 151) 21 (by kernel_rfl) rfl rfl (by assumption) (.inl ⟨by rfl, fun w' hw => ?_⟩) ?_
          rotate_left
          · obtain ⟨q1, q2, q3⟩ := hw; go_simp <;> with_reducible rfl
          try simp only [Act.put, List.setIfInBounds_toArray, List.set_cons_zero, List.set_cons_succ]
          refine rgs_t (v := ?_) (some 152) 22 (by kernel_rfl) rfl rfl (by assumption) (.inl ⟨by rfl, fun w' hw => ?_⟩) ?_
          rotate_left
          · obtain ⟨q1, q2, q3⟩ := hw; go_simp <;> with_reducible rfl
          try simp only [Act.put, List.setIfInBounds_toArray, List.set_cons_zero, List.set_cons_succ]
          refine rgs_t (v := ?_) (some 153) 23 (by kernel_rfl) rfl rfl (by assumption) (.inl ⟨by rfl, fun w' hw => ?_⟩) ?_
          rotate_left
          · obtain ⟨q1, q2, q3⟩ := hw; go_simp <;> with_reducible rfl
          try simp only [Act.put, List.setIfInBounds_toArray, List.set_cons_zero, List.set_cons_succ]
          refine rgs_t (v := ?_) (some 154) 24 (by kernel_rfl) rfl rfl (by assumption) (.inl ⟨by rfl, fun w' hw => ?_⟩) ?_
          rotate_left
          · obtain ⟨q1, q2, q3⟩ := hw; go_simp <;> with_reducible rfl
          try simp only [Act.put, List.setIfInBounds_toArray, List.set_cons_zero, List.set_cons_succ]
          refine rgs_d (by kernel_rfl) ?_
          go_wp2_with fail
          go_meet
          case rel => exact ⟨by first | rfl | simp, HSD.out⟩
      case rest =>
        obtain ⟨rfl, hsp⟩ := hcut
        have HSP := Lib.hid hsp
        clear hsp HSP4
        go_upto_if 154 with fail
        go_cut [10] (fun o x => ∃ (v2 : Value) (l2 : List Fr) (A2 : Option Addr) (c2 : Nat) (S2 : Rs), o = .slice A2 l2.length c2 ∧ SpSt w2 x g v2 (.slice A2 l2.length c2) ch t15 t35 S2 l2 ∧ S2.ac = false ∧ S2.lt = T.lt ∧ l2.map fz = framesS ch t15 t35 evs)
        case first =>
          by_cases hj0 : j = 0
          · have hac := HZ0.out hj0
            have hac2 := hac
            have HLM2 := Lib.hid (show l.map fz = framesS ch t15 t35 evs by rw [HFR.out, hac, HLM.out]; simp)
            have HAC2 := Lib.hid hac2
            obtain rfl : ta = false := by rw [← HTA.out]; exact hac
            clear hac hac2 hj0
            go_wp2_with fail
            go_meet
            case rel => exact ⟨v, l, Ao, co, wid T i0, rfl, HSP.out, HAC2.out, rfl, HLM2.out⟩
          · have hac := HZ1.out (by omega)
            have HHAC := Lib.hid hac
            obtain rfl : ta = true := by rw [← HTA.out]; exact hac
            obtain rfl : dd = d0 := by rw [← HD0.out]; rfl
            have k1 : IntKind.i64.wrap (dd - 1) = dd - 1 := IntWalk.i64_in _ ⟨by have := HDD.out; have := HTB.out; have := HNB.out; omega, by have := HDD.out; have := HTB.out; have := HNB.out; omega⟩
            obtain ⟨A2, c2, hv2, _, _⟩ := own_form HSP.out.1.2
            subst hv2
            have HID := Lib.hid (fun (W : World) (h : SpSt w2 W g (.slice A2 T.xs.length c2) (.slice Ao l.length co) ch t15 t35 (wid T i0) l) => idle_early ch t15 t35 (.slice A2 T.xs.length c2) T.fi T.la T.fl T.lt i0 (dd - 1) g W (by have h1 := h.1.1; have h2 := HHAC.out; simp only [wid] at h1; rw [h2] at h1; exact h1) HNB.out.1 (by have := HNB.out; omega) (by have := HNB.out; omega) (by have := HNB.out; omega) (by have := HTB.out; omega) (by have := HDD.out; have := HNB.out; omega) (by have h1 := HI0.out; have := HDD.out; have := HNB.out; omega) (by have h1 := HTB.out; have := HDD.out; have := HNB.out; omega) (by have := HDD.out; omega))
            have HIT := Lib.hid (fun (W : World) (h : SpSt w2 W g (.slice A2 T.xs.length c2) (.slice Ao l.length co) ch t15 t35 (wid T (dd - 1)) l) => idle_take ch t15 t35 A2 T.xs.length c2 T.fi T.la T.fl T.lt (dd - 1) dd g W (by have h1 := h.1.1; have h2 := HHAC.out; simp only [wid] at h1; rw [h2] at h1; exact h1) HNB.out.1 (by have := HNB.out; omega) (by have := HNB.out; omega) (by have := HNB.out; omega) (by have := HTB.out; omega) (by have := HDD.out; have := HNB.out; omega) (by omega) (by have h1 := HTB.out; have := HDD.out; have := HNB.out; omega) (by have := HDD.out; omega))
            clear hac hj0
            go_wp2_with fail
            refine (HID.out _ HSP.out).mono ?_
            rintro e x6 ⟨rfl, hB6, hg6⟩
            unfold noFrame
            have HS6 := Lib.hid ((HSP.out.idle (S' := wid T (dd - 1)) (by simp only [wid]; rw [HHAC.out]; exact hB6) rfl hg6).below ((Below.refl _ _).alloc (Nat.le_refl _) (.cells #[.slice none 0 0, .int .i64 0, .int .i64 0, .int .i64 0] 44)))
            clear hB6 hg6
            go_wp2_with fail
            refine (HIT.out _ HS6.out).mono ?_
            rintro e x7 ⟨rfl, hB7, hg7⟩
            obtain ⟨hs3, hf3⟩ := HS6.out.end_ (v' := .slice none 0 0) (S' := wid (takeS T) dd) ⟨hB7, rfl, .inl ⟨rfl, rfl⟩⟩ (.inl rfl) ((Chg.refl _ g none).grown hg7 (.inl rfl))
            have hb4 := (Below.refl x7.heap.size x7).alloc (Nat.le_refl _) (.cells #[.slice A2 T.xs.length c2, .int .i64 T.fi, .int .i64 T.la, .int .i64 T.fl] 44)
            have hb5 := (Below.refl _ (x7.alloc (.cells #[.slice A2 T.xs.length c2, .int .i64 T.fi, .int .i64 T.la, .int .i64 T.fl] 44))).alloc (Nat.le_refl _) (.cells #[.slice A2 T.xs.length c2, .int .i64 T.fi, .int .i64 T.la, .int .i64 T.fl] 44)
            have HS5 := Lib.hid ((hs3.below hb4).below hb5)
            have HF5 := Lib.hid ((hf3.below hb4).below hb5)
            obtain ⟨qf, zf, lf⟩ := Box.alloc_ (w := x7) (cs := #[.slice A2 T.xs.length c2, .int .i64 T.fi, .int .i64 T.la, .int .i64 T.fl]) (e := 44)
            clear hB7 hg7 hs3 hf3 hb4 hb5
            go_wp2_with (at_builtin; refine wpList_appN (.tmp 172) (.tmp 174) 29 w2.heap.size 44 _ 4 48 _ l.length (frCells l) (x7.heap.size + 2) (some ⟨x7.heap.size + 1, 0, none⟩) 1 1 _ Try.underlying29 frInfo rfl (by decide) rfl rfl rfl rfl HS5.out.2.1 (by have h := Rd.lit (w := x7.alloc (.cells #[.slice A2 T.xs.length c2, .int .i64 T.fi, .int .i64 T.la, .int .i64 T.fl] 44)) (size := 4) (n := 1) (cs := #[.slice A2 T.xs.length c2, .int .i64 T.fi, .int .i64 T.la, .int .i64 T.fl]) (e := 44) (fz := (0, 0)) (B := x7.heap.size + 2) rfl (by simp); simpa using h) (one_fr ⟨A2, T.xs.length, c2, T.xs, T.fi, T.la, T.fl⟩) (by have := HL0.out; omega) (by omega) (by have := HS5.out.2.2.2.2.2.2.size; exact this) ?_; intro vo' w6 hown6 hg6 hn6 hb6)
            have hs6 := HS5.out.app HF5.out hown6 hg6 hn6
            obtain ⟨Ao', co', hvo, _, _⟩ := own_form hown6
            subst hvo
            have HS7 := Lib.hid hs6
            clear hs6 hown6 hg6 hn6 hb6 qf zf lf
            go_meet
            case rel =>
              have hlen : (l ++ [⟨A2, T.xs.length, c2, T.xs, T.fi, T.la, T.fl⟩] : List Fr).length = l.length + 1 := by simp
              refine ⟨_, l ++ [⟨A2, T.xs.length, c2, T.xs, T.fi, T.la, T.fl⟩], Ao', co', wid (takeS T) dd, by rw [hlen], by rw [hlen]; exact HS7.out, rfl, rfl, ?_⟩
              rw [HFR.out, HHAC.out, if_pos rfl, List.map_append, HLM.out]
              rfl
        case rest =>
          obtain ⟨v2, l2, A2, c2, S2, rfl, hsp2, hac2, hlt2, hl2⟩ := hcut
          have HS2 := Lib.hid hsp2
          have HL2 := Lib.hid hl2
          have hdl2 := fun (W : World) (h : SpSt w2 W g v2 (.slice A2 l2.length c2) ch t15 t35 S2 l2) => deadline_any ch t15 t35 v2 S2.fi S2.la S2.fl S2.ac S2.lt S2.id_ g W h.1.1 HNB.out.1 (by have := HNB.out; omega) (by have := HNB.out; omega) (by have := HNB.out; omega) (by rw [hlt2]; exact HTB.out.1) (by rw [hlt2]; have := HTB.out; omega)
          rw [hac2] at hdl2
          have HDL2 := Lib.hid hdl2
          clear hsp2 hac2 hlt2 hl2 hdl2 HSP
          go_wp2_with fail
          refine (HDL2.out _ HS2.out).mono ?_
          rintro e w8 ⟨rfl, hb8⟩
          have HS8 := Lib.hid (HS2.out.below hb8)
          clear hb8
          go_wp2_with fail
          refine (awake_any _).mono ?_
          rintro e w9 ⟨rfl, hb9⟩
          have HS9 := Lib.hid (HS8.out.below hb9)
          clear hb9
          have HB9 := Lib.hid (HB2.out.below HS9.out.2.2.2.2.2.2)
          obtain ⟨q, z, lx⟩ := HB9.out
          go_wp2_with fail
          refine (HFM.out _ _ _ _ ((HR2.out.below HS9.out.2.2.2.2.2.2 (Nat.le_refl _)).more HS9.out.2.2.2.2.2.2.size) (by have := HJ60.out; omega) HMC.out.1 HMC.out.2.1).mono ?_
          rintro e w10 ⟨l6, A6, c6, rfl, hr6, hf6, hl6, hb6⟩
          have HS10 := Lib.hid (HS9.out.below hb6)
          have HSM := Lib.hid (rsames_eq l2 l6 (by rw [HL2.out, hl6, frames_eq]) A2 A6 l2.length l6.length c2 c6 w10 (Rd.of_own HS10.out.2.1) hr6 (by
            have h1 : (framesS ch t15 t35 evs).length = l2.length := by rw [← HL2.out]; simp
            have h2 := runS_len ch t15 t35 .zero evs
            have h3 : (framesS ch t15 t35 evs).length ≤ (runS ch t15 t35 .zero evs).1.length + 1 := by unfold framesS; rw [List.length_append]; split <;> simp
            have := HEL.out
            omega) (fun f hf => (HS10.out.2.2.2.2.1 f hf).move (Nat.le_refl _) (fun _ _ _ => rfl) (fun b _ h => h.elim)) hf6)
          have HFIN0 := Lib.hid (ext_trans HW2.out HS10.out.2.2.2.2.2.2)
          clear hr6 hf6 hl6 hb6 q z lx
          go_wp2_with fail
          refine HSM.out.mono ?_
          rintro e w11 ⟨rfl, hb11⟩
          have HFIN := Lib.hid (ext_trans HFIN0.out hb11)
          clear hb11
          go_wp2
          go_ret
          exact ⟨rfl, HFIN.out⟩
end Go.Proofs.Ythgapllfjllnfaa

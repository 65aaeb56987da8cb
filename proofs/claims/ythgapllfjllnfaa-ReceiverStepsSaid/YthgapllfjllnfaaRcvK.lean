/- The walk of ReceiverSplit. -/
import Derived.Test.YthgapllfjllnfaaRcvH
import Derived.Test.YthgapllfjllnfaaRcvJ
import Derived.Test.YthgapllfjllnfaaRcvO
import Derived.Test.YthgapllfjllnfaaRcvQ
set_option linter.unusedVariables false
set_option linter.unusedSimpArgs false
namespace Go.Proofs.Ythgapllfjllnfaa
open Go.RowKit

theorem own_form2 {w : World} {base : Nat} {e : TypeId} {size n : Nat} {v : Value} {xs : List Value} (h : w.ownsRow base e size v n xs) :
    ∃ A c, v = .slice A n c ∧ n ≤ c ∧ c ≤ maxLen ∧ Rd w w.heap.size size A n xs := by
  rcases h.2 with ⟨rfl, rfl⟩ | ⟨g, cap, cur, rfl, _, _, hc, hm, _⟩
  · exact ⟨none, 0, rfl, Nat.le_refl _, by simp, Rd.of_own h⟩
  · exact ⟨_, _, rfl, hc, hm, Rd.of_own h⟩
theorem events_any (raw : Bool) (l : List Ev) (A : Option Addr) (n c : Nat) (w : World) (hr : Rd w w.heap.size 3 A n (evCells l)) (hn : n ≤ maxLen) :
    Calls Try.prog 10 #[.slice A n c, .bool raw] w fun e w' => ∃ m Al cl, e = .returned (.slice Al m cl) ∧ m ≤ cl ∧ cl ≤ maxLen ∧ m = (eventsL raw l).length ∧ Rd w' w'.heap.size 3 Al m (evCells (eventsL raw l)) ∧ Below w.heap.size w w' := by
  cases raw
  · refine (events_acc l A n c w hr hn).mono ?_
    rintro e w' ⟨v, rfl, hown, hb⟩
    obtain ⟨Al, cl, rfl, h1, h2, h3⟩ := own_form2 hown
    exact ⟨_, Al, cl, rfl, h1, h2, by simp [eventsL, accE_len], h3, hb⟩
  · refine (events_raw l A n c w hr hn).mono ?_
    rintro e w' ⟨v, rfl, hown, hb⟩
    obtain ⟨Al, cl, rfl, h1, h2, h3⟩ := own_form2 hown
    exact ⟨_, Al, cl, rfl, h1, h2, rfl, h3, hb⟩
/-- What Split and the reference's Events say together. -/
def SpAll (b p ch t15 t35 : Int) (evs : List Ev) (w w' : World) (vo : Value) (E : Int) : Prop :=
  Below w.heap.size w w' ∧ E = evErr b p evs ∧ ((E ≠ 0 ∧ vo = .slice none 0 0) ∨ (E = 0 ∧ evs.all inR = true ∧ ∃ (l : List Fr) (Ao : Option Addr) (co : Nat), vo = .slice Ao l.length co ∧ Rd w' w'.heap.size 4 Ao l.length (frCells l) ∧ (∀ f ∈ l, FrOk w' (fun _ => False) f) ∧ l.map fz = framesR ch t15 t35 evs))
theorem split_all (b p ch t15 t35 : Int) (h1 : charZ b p = ch) (h2 : t15Z b p = t15) (h3 : t35Z b p = t35) (evs : List Ev) (A : Option Addr) (n c : Nat) (w : World) (hr : Rd w w.heap.size 3 A n (evCells evs)) (hn : n ≤ 1000) :
    Calls Try.prog 11 #[.agg #[.int .i64 b, .int .i64 p], .slice A n c] w fun e w' => ∃ vo E, e = .returned (.tuple #[vo, .int .i64 E]) ∧ SpAll b p ch t15 t35 evs w w' vo E := by
  by_cases hv : validB b p = true
  · refine (split_ok b p ch t15 t35 hv h1 h2 h3 evs A n c w.heap.size w hr (Nat.le_refl _) hn).mono ?_
    rintro e w' ⟨vo, E, rfl, hb, h⟩
    refine ⟨vo, E, rfl, hb, ?_⟩
    unfold evErr
    rw [if_neg (by rw [hv]; decide)]
    rcases h with ⟨a, rfl, rfl⟩ | ⟨a, o, rfl, rfl⟩ | ⟨a, o, rfl, l, Ao, co, rfl, hr2, hf, hl⟩
    · rw [if_pos a]; exact ⟨rfl, .inl ⟨by decide, rfl⟩⟩
    · rw [if_neg (by rw [a]; decide), if_pos o]; exact ⟨rfl, .inl ⟨by decide, rfl⟩⟩
    · rw [if_neg (by rw [a]; decide), if_neg (by rw [o]; decide)]; exact ⟨rfl, .inr ⟨rfl, a, l, Ao, co, rfl, hr2, hf, by rw [hl, frames_eq]⟩⟩
  · have hv : validB b p = false := by simpa using hv
    refine (split_bad b p hv (.slice A n c) w).mono ?_
    rintro e w' ⟨rfl, hb⟩
    refine ⟨_, _, rfl, hb, ?_, .inl ⟨by decide, rfl⟩⟩
    unfold evErr
    rw [if_pos hv]
set_option maxRecDepth 100000 in
set_option maxHeartbeats 16000000 in
theorem splitLaw_any (b0 p0 k0 : Int) (l : List Ev) (A : Option Addr) (n c : Nat) (raw : Bool) (w : World) (hr : Rd w w.heap.size 3 A n (evCells l)) (hn : n ≤ maxLen) :
    Calls Try.prog 3 #[.agg #[.int .i64 b0, .int .i64 p0], .int .i64 k0, .slice A n c, .bool raw] w fun e w' => e = .returned (.bool true) ∧ Below w.heap.size w w' := by
  obtain ⟨j, hj, hm⟩ : ∃ j : Nat, j < 24 ∧ k0 % 24 = (j : Int) := ⟨(k0 % 24).toNat, by omega, by omega⟩
  have HM := Lib.hid (fun w => mod_eq k0 24 j (by omega) (by omega) hm w)
  have hlj : j < allL.length := by rw [all_length]; exact hj
  obtain ⟨e0, e1⟩ := st_get0 allL j hlj
  obtain ⟨b1, hb⟩ : ∃ b, (allL[j]).1 = b := ⟨_, rfl⟩
  obtain ⟨p1, hp⟩ : ∃ p, (allL[j]).2 = p := ⟨_, rfl⟩
  rw [hb] at e0
  rw [hp] at e1
  have E0 := Lib.hid e0; have E1 := Lib.hid e1
  have HR := Lib.hid hr
  have HN := Lib.hid hn
  have hbx := Box.alloc_ (w := w) (cs := #[.int .i64 b0, .int .i64 p0]) (e := 23)
  have hbw : Below w.heap.size w (w.alloc (.cells #[.int .i64 b0, .int .i64 p0] 23)) := (Below.refl _ _).alloc (Nat.le_refl _) _
  obtain ⟨W1, hW1⟩ : ∃ W, w.alloc (.cells #[.int .i64 b0, .int .i64 p0] 23) = W := ⟨_, rfl⟩
  obtain ⟨g, hg⟩ : ∃ g, w.heap.size = g := ⟨_, rfl⟩
  rw [hW1, hg] at hbx
  rw [hW1] at hbw
  have HBX := Lib.hid hbx
  have HBW := Lib.hid hbw
  have HG := Lib.hid hg
  clear hm hb hp e0 e1 hr hn hbx hbw
  go_enter Try.func3, Try.ntmps3
  go_upto_if 13 with fail
  try rw [hW1]
  try rw [hg]
  clear hW1 hg
  go_cut [] (fun x => ∃ b p, Box x g #[.int .i64 b, .int .i64 p] ∧ Below w.heap.size w x)
  case first =>
    cases raw
    · go_wp2_with fail
      refine (all_any _).mono ?_
      rintro e w1 ⟨A1, c0, rfl, hown, hb1⟩
      obtain ⟨g1, off, rfl, _, hcc⟩ := (Rd.of_own hown).2 (by omega)
      have c1 := hcc _ _ E0.out
      have c2 := hcc _ _ E1.out
      rw [← Nat.add_assoc] at c2
      have HBX1 := Lib.hid (HBX.out.below hb1)
      have HBW1 := Lib.hid (ext_trans HBW.out hb1)
      clear hown hcc hb1
      go_wp2_with fail
      refine (HM.out _).mono ?_
      rintro e w' ⟨rfl, rfl⟩
      have hgw : w.heap.size ≤ g := by rw [HG.out]; exact Nat.le_refl _
      have HBX2 := Lib.hid ((HBX1.out.set (k := 0) (v := .int .i64 b1) (cs' := #[.int .i64 b1, .int .i64 p0]) (by simp) rfl).set (k := 1) (v := .int .i64 p1) (cs' := #[.int .i64 b1, .int .i64 p1]) (by simp) rfl)
      have HBW2 := Lib.hid ((HBW1.out.setCell (p := ⟨g, 0, none⟩) hgw (.int .i64 b1)).setCell (p := ⟨g, 1, none⟩) hgw (.int .i64 p1))
      obtain ⟨q, z, lx⟩ := HBX1.out
      go_wp2_with fail
      go_meet
      case rel => exact ⟨b1, p1, HBX2.out, HBW2.out⟩
    · go_wp2_with fail
      go_meet
      case rel => exact ⟨b0, p0, HBX.out, HBW.out⟩
  case rest =>
    obtain ⟨b, p, hbx, hbw⟩ := hcut
    obtain ⟨ch, hc⟩ : ∃ z, charZ b p = z := ⟨_, rfl⟩
    obtain ⟨t15, h15⟩ : ∃ z, t15Z b p = z := ⟨_, rfl⟩
    obtain ⟨t35, hu⟩ : ∃ z, t35Z b p = z := ⟨_, rfl⟩
    obtain ⟨evs, hevs⟩ : ∃ z, eventsL raw l = z := ⟨_, rfl⟩
    have hel : evs.length ≤ 60 := by rw [← hevs]; exact eventsL_len raw l
    have HEV := Lib.hid (fun (W : World) (h : Rd W W.heap.size 3 A n (evCells l)) => events_any raw l A n c W h HN.out)
    rw [hevs] at HEV
    obtain ⟨er, her⟩ : ∃ z, evErr b p evs = z := ⟨_, rfl⟩
    have HSP := Lib.hid (fun (W : World) (Al : Option Addr) (m cl : Nat) (h : Rd W W.heap.size 3 Al m (evCells evs)) (hm : m ≤ 1000) => split_all b p ch t15 t35 hc h15 hu evs Al m cl W h hm)
    unfold SpAll at HSP
    rw [her] at HSP
    have HRE := Lib.hid (fun (W : World) (Al : Option Addr) (m cl : Nat) (h : Rd W W.heap.size 3 Al m (evCells evs)) (hm : m ≤ 1000) => revents_any b p evs er her Al m cl W.heap.size W h (Nat.le_refl _) hm)
    have HFM := Lib.hid (fun (W : World) (Al : Option Addr) (m cl : Nat) (h : Rd W W.heap.size 3 Al m (evCells evs)) (hm : m ≤ 1000) (h1 : m ≤ cl) (h2 : cl ≤ maxLen) (hin : evs.all inR = true) => rframes_eq b p ch t15 t35 hc h15 hu evs Al m cl W.heap.size W h (Nat.le_refl _) h1 h2 hm hin)
    have HB1 := Lib.hid hbx
    have HW1 := Lib.hid hbw
    have HEL := Lib.hid hel
    clear hbx hbw hc h15 hu hevs her hel HBX HBW
    obtain ⟨q, z, lx⟩ := HB1.out
    go_wp2_with fail
    refine (HEV.out _ ((HR.out.below HW1.out (Nat.le_refl _)).more HW1.out.size)).mono ?_
    rintro e w2 ⟨m, Al, cl, rfl, hmc, hcm, hml, hr2, hb2⟩
    have HR2 := Lib.hid hr2
    have HB2 := Lib.hid (HB1.out.below hb2)
    have HW2 := Lib.hid (ext_trans HW1.out hb2)
    have HMC := Lib.hid (And.intro hmc (And.intro hcm (show m ≤ 1000 by have := HEL.out; omega)))
    clear hmc hcm hml hr2 hb2 q z lx
    obtain ⟨q, z, lx⟩ := HB2.out
    go_wp2_with fail
    refine (HSP.out _ _ _ _ HR2.out HMC.out.2.2).mono ?_
    rintro e w3 ⟨vo, E, rfl, hb3, rfl, hsay⟩
    have HR3 := Lib.hid ((HR2.out.below hb3 (Nat.le_refl _)).more hb3.size)
    have HB3 := Lib.hid (HB2.out.below hb3)
    have HW3 := Lib.hid (ext_trans HW2.out hb3)
    have HSAY := Lib.hid hsay
    clear hb3 hsay q z lx
    obtain ⟨q, z, lx⟩ := HB3.out
    go_wp2_with fail
    refine (HRE.out _ _ _ _ HR3.out HMC.out.2.2).mono ?_
    rintro e w4 ⟨rfl, hb4⟩
    have HR4 := Lib.hid ((HR3.out.below hb4 (Nat.le_refl _)).more hb4.size)
    have HB4 := Lib.hid (HB3.out.below hb4)
    have HW4 := Lib.hid (ext_trans HW3.out hb4)
    rcases HSAY.out with ⟨hE, rfl⟩ | ⟨rfl, hin, l2, Ao, co, rfl, hr5, hf5, hl5⟩
    · have d1 : (E == 0) = false := by simpa using hE
      clear hE hb4 q z lx
      go_wp2_with fail
      refine (awake_any _).mono ?_
      rintro e w5 ⟨rfl, hb5⟩
      have HFIN := Lib.hid (ext_trans HW4.out hb5)
      clear hb5
      go_wp2
      go_ret
      exact ⟨rfl, HFIN.out⟩
    · have HRF := Lib.hid ((hr5.below hb4 (Nat.le_refl _)).more hb4.size)
      have HFF := Lib.hid (fun f hf => (hf5 f hf).below hb4)
      have HLE := Lib.hid hl5
      have HIN := Lib.hid hin
      clear hb4 hr5 hf5 hl5 hin q z lx HSAY
      go_wp2_with fail
      refine (awake_any _).mono ?_
      rintro e w5 ⟨rfl, hb5⟩
      have HR5 := Lib.hid ((HR4.out.below hb5 (Nat.le_refl _)).more hb5.size)
      have HB5 := Lib.hid (HB4.out.below hb5)
      have HW5 := Lib.hid (ext_trans HW4.out hb5)
      have HRF5 := Lib.hid ((HRF.out.below hb5 (Nat.le_refl _)).more hb5.size)
      have HFF5 := Lib.hid (fun f hf => (HFF.out f hf).below hb5)
      clear hb5
      obtain ⟨q, z, lx⟩ := HB5.out
      go_wp2_with fail
      refine (HFM.out _ _ _ _ HR5.out HMC.out.2.2 HMC.out.1 HMC.out.2.1 HIN.out).mono ?_
      rintro e w6 ⟨l6, A6, c6, rfl, hr6, hf6, hl6, hb6⟩
      have HW6 := Lib.hid (ext_trans HW5.out hb6)
      have HSM := Lib.hid (rsames_eq l2 l6 (by rw [HLE.out, hl6]) Ao A6 l2.length l6.length co c6 w6 ((HRF5.out.below hb6 (Nat.le_refl _)).more hb6.size) hr6 (by
        have h1 : (framesR ch t15 t35 evs).length = l2.length := by rw [← HLE.out]; simp
        rw [← frames_eq] at h1
        have h2 := runS_len ch t15 t35 .zero evs
        have h3 : (framesS ch t15 t35 evs).length ≤ (runS ch t15 t35 .zero evs).1.length + 1 := by unfold framesS; rw [List.length_append]; split <;> simp
        have := HEL.out
        omega) (fun f hf => (HFF5.out f hf).below hb6) hf6)
      clear hr6 hf6 hl6 hb6 q z lx
      go_wp2_with fail
      refine HSM.out.mono ?_
      rintro e w7 ⟨rfl, hb7⟩
      have HFIN := Lib.hid (ext_trans HW6.out hb7)
      clear hb7
      go_wp2
      go_ret
      exact ⟨rfl, HFIN.out⟩
end Go.Proofs.Ythgapllfjllnfaa

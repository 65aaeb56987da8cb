/- Layer 4: the statements' is. -/
import Derived.Test.YtjbbkhoonenfjaaRunV
set_option linter.unusedVariables false
set_option linter.unusedSimpArgs false
namespace Go.Proofs.Ytjbbkhoonenfjaa
open Go.RowKit

theorem MxA_pos {α : Type} : ∀ (p : Option α) (rs : List (Rn α)), MxA p rs → ∀ r ∈ rs, 1 ≤ r.1
  | _, [], _, r, hr => by simp at hr
  | p, x :: t, h, r, hr => by
    rcases List.mem_cons.1 hr with rfl | hr
    · exact h.1
    · exact MxA_pos _ t h.2.2 r hr
theorem MxA_adj {α : Type} : ∀ (p : Option α) (rs : List (Rn α)), MxA p rs → ∀ j (h : j + 1 < rs.length), rs[j].2 ≠ rs[j + 1].2
  | _, [], _, j, h => by simp at h
  | _, [x], _, j, h => by simp at h
  | p, x :: y :: t, hm, 0, h => by
    have := hm.2.2.2.1
    simp only [List.getElem_cons_zero, List.getElem_cons_succ]
    intro e; exact this (by rw [e])
  | p, x :: y :: t, hm, j + 1, h => by
    have := MxA_adj (some x.2) (y :: t) hm.2.2 j (by simpa using h)
    simpa using this

set_option maxRecDepth 100000 in
set_option maxHeartbeats 4000000 in
theorem is_any (rs : List (Rn Int)) (want : List Int) (A A2 : Option Addr) (n c B m c2 B2 : Nat) (w : World) (hr : Rd w B 2 A n (rnCells rs)) (hw : Rd w B2 1 A2 m (i64s want)) (hmx : Mx rs) (he : expand rs = want) (hn : n ≤ 10000) (hm : m ≤ 5000) :
    Calls Try.prog 19 #[lv A n c, .slice A2 m c2] w fun e w' => e = .returned (.bool true) ∧ Below w.heap.size w w' := by
  have hr := hr.fits (by decide)
  have hw := hw.fits (by decide)
  have hml : want.length = m := by have := hw.1; simpa using this
  have ht : tot rs = m := by rw [← expand_length, he, hml]
  have hnl := hr.rlen
  have hpos := MxA_pos none rs hmx
  have hadj := MxA_adj none rs hmx
  have HLEN := Lib.hid (fun (W : World) (h : Below w.heap.size w W) => len_any rs A n c w.heap.size W (hr.below h (Nat.le_refl _)) (by omega) m ht (by omega))
  have HAT := Lib.hid (fun (W : World) (h : Below w.heap.size w W) (i v : Int) (ok : Bool) (h1 : -1000000 ≤ i) (h2 : i ≤ 1000000) (hv : atL rs i = (v, ok)) => at_any rs A n c w.heap.size i v ok W (hr.below h (Nat.le_refl _)) (by omega) (by omega) h1 h2 hpos hv)
  have HRUNS := Lib.hid (fun (W : World) (h : Below w.heap.size w W) => runs_any A n c w.heap.size rs W (hr.below h (Nat.le_refl _)) (by omega))
  have HW := Lib.hid (fun (W : World) (h : Below w.heap.size w W) => int_at (hw.below h (Nat.le_refl _)))
  have HE := Lib.hid he
  have HT := Lib.hid ht
  have HP := Lib.hid hpos
  have HADJ := Lib.hid hadj
  have HNL := Lib.hid hnl
  clear hr hw hmx he hml ht hnl hpos hadj
  go_enter Try.func19, Try.ntmps19
  go_wp2_with fail
  refine (HLEN.out _ ((Below.refl _ _).alloc (Nat.le_refl _) _)).mono ?_
  rintro e w1 ⟨rfl, hb1⟩
  have hB1 := Box.new hb1
  have hbw1 := ext_alloc' (Below.refl _ w) (by simpa using hb1)
  clear hb1
  go_wp2_with fail
  go_loopw [5] (fun i wr => ∃ k : Nat, k ≤ m ∧ i = .int .i64 k ∧ Box wr w.heap.size #[.slice A n c] ∧ Below w.heap.size w wr) (fun i _ => m - (intOf i).toNat)
  case atStart => exact ⟨0, by omega, rfl, hB1, hbw1⟩
  case round =>
    obtain ⟨k, hk, rfl, hB, hbw⟩ := hrel
    clear hB1 hbw1
    have HB := Lib.hid hB
    by_cases hlt : k < m
    · obtain ⟨b, off, rfl, hbl, c0⟩ := HW.out wr hbw k hlt
      obtain ⟨x, hx⟩ : ∃ x, want.getD k 0 = x := ⟨_, rfl⟩
      rw [hx] at c0
      have hat : atL rs (k : Int) = (x, true) := by
        rw [atL, if_pos ⟨by omega, by rw [HT.out]; omega⟩, HE.out]; simp only [Int.toNat_natCast, hx]
      have HA := Lib.hid (HAT.out wr hbw k x true (by omega) (by omega) hat)
      obtain ⟨q1, z1, l1⟩ := hB
      clear hat hx
      go_wp2_with fail
      refine HA.out.mono ?_
      rintro e w2 ⟨rfl, hb2⟩
      have hB2 := HB.out.below hb2
      have hbw2 := ext_trans hbw hb2
      have c0' : w2.cell? ⟨b, off + k, none⟩ = some (.int .i64 x) := (hb2.cell (p := ⟨b, off + k, none⟩) (Nat.lt_of_lt_of_le hbl hbw.size)).trans c0
      clear hb2 HA q1 z1 l1 c0
      go_wp2
      exact ⟨⟨k + 1, by omega, by go_num, hB2, hbw2⟩, by simp [intOf]; omega⟩
    · obtain rfl : k = m := by omega
      have hat1 : atL rs (-1) = (0, false) := by rw [atL, if_neg (by omega)]
      have hat2 : atL rs (k : Int) = (0, false) := by rw [atL, if_neg (by rw [HT.out]; omega)]
      have HA1 := Lib.hid (HAT.out wr hbw (-1) 0 false (by omega) (by omega) hat1)
      have HA2 := Lib.hid (fun (W : World) (h : Below w.heap.size w W) => HAT.out W h k 0 false (by omega) (by omega) hat2)
      obtain ⟨q1, z1, l1⟩ := hB
      clear hat1 hat2 hlt
      go_wp2_with fail
      refine HA1.out.mono ?_
      rintro e w2 ⟨rfl, hb2⟩
      have hB2 := HB.out.below hb2
      have hbw2 := ext_trans hbw hb2
      have HB2 := Lib.hid hB2
      obtain ⟨q2, z2, l2⟩ := hB2
      clear hb2 HA1 q1 z1 l1 hbw HB
      go_wp2_with fail
      refine (HA2.out _ hbw2).mono ?_
      rintro e w3 ⟨rfl, hb3⟩
      have hB3 := HB2.out.below hb3
      have hbw3 := ext_trans hbw2 hb3
      obtain ⟨q3, z3, l3⟩ := hB3
      clear hb3 HA2 q2 z2 l2 hbw2 HB2
      go_wp2_with fail
      refine (HRUNS.out _ hbw3).mono ?_
      rintro e w4 ⟨v4, rfl, hown4, hb4⟩
      have hbw4 := ext_trans hbw3 hb4
      obtain ⟨A4, c4, rfl, _, hR4⟩ := own_form hown4
      have HR4 := Lib.hid hR4
      clear hb4 hR4 hown4 q3 z3 l3 hbw3 HRUNS HAT HLEN
      go_wp2_with fail
      go_loopw [13, 14] (fun s j wr => ∃ i : Nat, i ≤ n ∧ j = .int .i64 i ∧ s = .int .i64 (tot (rs.take i)) ∧ Below w4.heap.size w4 wr) (fun _ j _ => n - (intOf j).toNat)
      case atStart => exact ⟨0, by omega, rfl, rfl, Below.refl _ _⟩
      case round =>
        obtain ⟨i, hi, rfl, rfl, hbr⟩ := hrel
        have hbq := ext_trans hbw4 hbr
        have hbd := tot_take rs i
        by_cases hlt : i < n
        · obtain ⟨b, off, rfl, hbl, hi', c0, c1⟩ := rn_cells (HR4.out.below hbr (Nat.le_refl _)) i hlt
          have hsn := tot_snoc rs i hi'
          have hbd2 := tot_take rs (i + 1)
          have hp := HP.out _ (List.getElem_mem hi')
          have hget := fun j hj => expand_get rs i hi' j hj
          obtain ⟨s, hs⟩ : ∃ s, tot (rs.take i) = s := ⟨_, rfl⟩
          obtain ⟨r1, hr1⟩ : ∃ r1, rs[i].1 = r1 := ⟨_, rfl⟩
          obtain ⟨r2, hr2⟩ : ∃ r2, rs[i].2 = r2 := ⟨_, rfl⟩
          rw [hs, hr1, hr2, HE.out] at hget
          rw [hr1] at c0 hsn hp
          rw [hr2] at c1
          rw [hs] at hsn hbd ⊢
          rw [hsn, HT.out] at hbd2
          have HG := Lib.hid hget
          have HSN := Lib.hid hsn
          have f1 : decide ((r1 : Int) < 1) = false := by simp; omega
          have f2 : IntKind.i64.wrap ((k : Int) - (s : Int)) = (k : Int) - (s : Int) := IntWalk.i64_in _ ⟨by omega, by omega⟩
          have f3 : decide ((k : Int) - (s : Int) < (r1 : Int)) = false := by simp; omega
          clear hs hget hsn
          have HR1 := Lib.hid hr1
          have HR2 := Lib.hid hr2
          clear hr1 hr2
          rcases i with _ | i
          · simp only [Nat.zero_mul, Nat.add_zero] at c0 c1
            go_wp2_with fail
            go_quiet (fail)
            clear f2
            go_wp2_with fail
            go_loopw [15] (fun x wq => ∃ kk : Nat, kk ≤ r1 ∧ x = .int .i64 kk ∧ Below w4.heap.size w4 wq) (fun x _ => r1 - (intOf x).toNat)
            case atStart => exact ⟨0, by omega, rfl, below_drewN hbr _⟩
            case round =>
              obtain ⟨kk, hkk, rfl, hbr2⟩ := hrel
              clear hbr hbq
              have hbq := ext_trans hbw4 hbr2
              have hR5 := HR4.out.below hbr2 (Nat.le_refl _)
              obtain ⟨b5, o5, e5, _, _, y0, y1⟩ := rn_cells hR5 0 hlt
              obtain ⟨rfl, rfl⟩ : b = b5 ∧ off = o5 := by injection e5 with e5; injection e5 with e1 e2; exact ⟨e1, e2⟩
              rw [HR1.out] at y0
              rw [HR2.out] at y1
              simp only [Nat.zero_mul, Nat.add_zero] at y0 y1
              clear e5 hR5
              by_cases hlt3 : kk < r1
              · obtain ⟨b6, o6, rfl, _, d0⟩ := HW.out _ hbq (s + kk) (by omega)
                have hv : want.getD (s + kk) 0 = r2 := by
                  have := HG.out kk hlt3
                  simp [List.getD, this]
                rw [hv] at d0
                have g1 : IntKind.i64.wrap ((s : Int) + (kk : Int)) = (s : Int) + (kk : Int) := IntWalk.i64_in _ ⟨by omega, by omega⟩
                have g2 : (0 : Int) ≤ (s : Int) + (kk : Int) := by omega
                have g3 : ((s : Int) + (kk : Int)).toNat = s + kk := by omega
                have g4 : (s : Int) + (kk : Int) < (k : Int) := by omega
                clear hv
                go_wp2_with fail
                go_quiet (fail)
                clear g1 g2 g3 g4
                go_wp2
                exact ⟨⟨kk + 1, by omega, by go_num, below_drewN hbr2 _⟩, by simp [intOf]; omega⟩
              · obtain rfl : kk = r1 := by omega
                go_wp2
                exact ⟨⟨1, by omega, rfl, by rw [HSN.out]; go_num, hbr2⟩, by simp [intOf]; omega⟩
          · obtain ⟨b3, o3, e3, _, hi3, x0, x1⟩ := rn_cells (HR4.out.below hbr (Nat.le_refl _)) i (by omega)
            obtain ⟨rfl, rfl⟩ : b = b3 ∧ off = o3 := by injection e3 with e3; injection e3 with e1 e2; exact ⟨e1, e2⟩
            have hne := HADJ.out i hi'
            rw [HR2.out] at hne
            obtain ⟨v0, hv0⟩ : ∃ v0, rs[i].2 = v0 := ⟨_, rfl⟩
            rw [hv0] at hne x1
            have f4 : (v0 == r2) = false := by simpa using hne
            have f5 : IntKind.i64.wrap ((i : Int) + 1 - 1) = (i : Int) := by rw [IntWalk.i64_in _ ⟨by omega, by omega⟩]; omega
            clear e3 hne hv0
            go_wp2_with fail
            go_quiet (fail)
            clear f2 f5
            go_wp2_with fail
            go_loopw [15] (fun x wq => ∃ kk : Nat, kk ≤ r1 ∧ x = .int .i64 kk ∧ Below w4.heap.size w4 wq) (fun x _ => r1 - (intOf x).toNat)
            case atStart => exact ⟨0, by omega, rfl, below_drewN hbr _⟩
            case round =>
              obtain ⟨kk, hkk, rfl, hbr2⟩ := hrel
              clear hbr hbq
              have hbq := ext_trans hbw4 hbr2
              have hR5 := HR4.out.below hbr2 (Nat.le_refl _)
              obtain ⟨b5, o5, e5, _, _, y0, y1⟩ := rn_cells hR5 (i + 1) hlt
              obtain ⟨rfl, rfl⟩ : b = b5 ∧ off = o5 := by injection e5 with e5; injection e5 with e1 e2; exact ⟨e1, e2⟩
              rw [HR1.out] at y0
              rw [HR2.out] at y1
              clear e5 hR5
              by_cases hlt3 : kk < r1
              · obtain ⟨b6, o6, rfl, _, d0⟩ := HW.out _ hbq (s + kk) (by omega)
                have hv : want.getD (s + kk) 0 = r2 := by
                  have := HG.out kk hlt3
                  simp [List.getD, this]
                rw [hv] at d0
                have g1 : IntKind.i64.wrap ((s : Int) + (kk : Int)) = (s : Int) + (kk : Int) := IntWalk.i64_in _ ⟨by omega, by omega⟩
                have g2 : (0 : Int) ≤ (s : Int) + (kk : Int) := by omega
                have g3 : ((s : Int) + (kk : Int)).toNat = s + kk := by omega
                have g4 : (s : Int) + (kk : Int) < (k : Int) := by omega
                clear hv
                go_wp2_with fail
                go_quiet (fail)
                clear g1 g2 g3 g4
                go_wp2
                exact ⟨⟨kk + 1, by omega, by go_num, below_drewN hbr2 _⟩, by simp [intOf]; omega⟩
              · obtain rfl : kk = r1 := by omega
                go_wp2
                exact ⟨⟨(i + 1) + 1, by omega, by go_num, by rw [HSN.out]; go_num, hbr2⟩, by simp [intOf]; omega⟩
        · obtain rfl : i = n := by omega
          have hte : tot (rs.take i) = k := by rw [List.take_of_length_le (by rw [HNL.out]; omega), HT.out]
          rw [hte]
          clear hte hbd
          go_wp2
          go_ret
          exact ⟨by simp, hbq⟩
end Go.Proofs.Ytjbbkhoonenfjaa

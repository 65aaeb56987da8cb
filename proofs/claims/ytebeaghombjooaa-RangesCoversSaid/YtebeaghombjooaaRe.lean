/- Layer 12: contracts of the reference's In, Count, Covers, Same (of equal lists). -/
import Derived.Test.YtebeaghombjooaaRd
set_option linter.unusedVariables false
set_option linter.unusedSimpArgs false
namespace Go.Proofs.Ytebeaghombjooaa
open Go.RowKit

theorem any_step (l : List Rg) (k : Nat) (hk : k < l.length) (p : Rg → Bool) : (l.take (k + 1)).any p = ((l.take k).any p || p l[k]) := by
  rw [List.take_succ_eq_append_getElem hk, List.any_append]; simp

set_option maxHeartbeats 2000000 in
theorem rin_any (l : List Rg) (A : Option Addr) (n c B : Nat) (a : Int) (w : World) (hr : Rd w B 2 A n (rgCells l)) (hn : n ≤ 4611686018427387904) (ha : a ≤ 9223372036854775807) (r : Bool) (hv : inL (setL l) a = r) :
    Calls Try.prog 26 #[.slice A n c, .int .i64 a] w fun e w' => e = .returned (.bool r) ∧ Below w.heap.size w w' := by
  have hr := hr.fits (by decide)
  have hl := hr.glen
  obtain ⟨v, hvl⟩ : ∃ v, validL l = v := ⟨_, rfl⟩
  have HVL := Lib.hid (fun (W : World) (h : Below w.heap.size w W) => rvalid_any l A n c w.heap.size W (hr.below h (Nat.le_refl _)) hn v hvl)
  have HR := Lib.hid hr
  have HL := Lib.hid hl
  have HV := Lib.hid hv
  have hmem : v = true → ∀ r ∈ l, 0 ≤ r.1 ∧ r.1 < 65536 ∧ 1 ≤ r.2 ∧ r.1 + r.2 ≤ 65536 := fun h => validGo_mem 0 l (by omega) (by rw [← h, ← hvl]; rfl)
  have HM := Lib.hid hmem
  have hset : setL l = if v = true then l else [] := by rw [← hvl]; rfl
  have HS := Lib.hid hset
  clear hr hl hv hvl hmem hset
  go_enter Try.func26, Try.ntmps26
  go_wp2
  go_loopw [5] (fun i wr => ∃ (k : Nat), k ≤ n ∧ i = .int .i64 k ∧ (l.take k).any (inR a) = false ∧ Below w.heap.size w wr) (fun i _ => n - (intOf i).toNat)
  case atStart => exact ⟨0, by omega, rfl, rfl, Below.refl _ _⟩
  case round =>
    obtain ⟨k, hk, rfl, hinv, hbw⟩ := hrel
    by_cases hlt : k < n
    · have HB := Lib.hid hbw
      have HI := Lib.hid hinv
      clear hinv hbw
      cases v
      · have hz : r = false := by rw [← HV.out, HS.out]; rfl
        subst hz
        go_wp2_with fail
        refine (HVL.out _ HB.out).mono ?_
        rintro e w1 ⟨rfl, hb1⟩
        go_wp2
        go_ret
        exact ⟨rfl, ext_trans HB.out hb1⟩
      · go_wp2_with fail
        refine (HVL.out _ HB.out).mono ?_
        rintro e w1 ⟨rfl, hb1⟩
        have hbw := ext_trans HB.out hb1
        obtain ⟨b, off, rfl, hbl, hk', c0, c1⟩ := rg_cells (HR.out.below hbw (Nat.le_refl _)) k hlt
        have hm := HM.out (by trivial) l[k] (List.getElem_mem _)
        have hst := any_step l k hk' (inR a)
        rw [HI.out, Bool.false_or] at hst
        have hin : inR a l[k] = true → inL (setL l) a = true := by
          intro h
          rw [HS.out]; exact List.any_eq_true.2 ⟨_, List.getElem_mem hk', h⟩
        obtain ⟨⟨r1, r2⟩, hrv⟩ : ∃ r, l[k] = r := ⟨_, rfl⟩
        rw [hrv] at c0 c1 hst hm hin
        simp only at c0 c1 hm
        obtain ⟨m1, m2, m3, m4⟩ := hm
        have HST := Lib.hid hst
        have HIN := Lib.hid hin
        have HBW := Lib.hid hbw
        clear hrv hst hin hbw hb1 HVL
        by_cases h1 : r1 ≤ a
        · by_cases h2 : a - r1 < r2
          · have hz : r = true := by rw [← HV.out]; exact HIN.out (by simp [inR]; omega)
            subst hz
            go_wp2_with fail
            go_quiet (fail)
            go_wp2
            go_ret
            exact ⟨rfl, below_drewN HBW.out _⟩
          · have d2 : decide (a - r1 < r2) = false := by simp; omega
            have hz : inR a (r1, r2) = false := by simp [inR]; omega
            have HZ := Lib.hid hz
            clear h2 hz
            go_wp2_with fail
            go_quiet (fail)
            go_wp2
            exact ⟨⟨k + 1, by omega, by go_num, by rw [HST.out, HZ.out], below_drewN HBW.out _⟩, by simp [intOf]; omega⟩
        · have d1 : decide (r1 ≤ a) = false := by simp; omega
          have hz : inR a (r1, r2) = false := by simp [inR]; omega
          have HZ := Lib.hid hz
          clear h1 hz
          go_wp2_with fail
          go_quiet (fail)
          go_wp2
          exact ⟨⟨k + 1, by omega, by go_num, by rw [HST.out, HZ.out], below_drewN HBW.out _⟩, by simp [intOf]; omega⟩
    · obtain rfl : k = n := by omega
      have hz : r = false := by
        rw [← HV.out, HS.out]
        rw [List.take_of_length_le (by rw [HL.out]; omega)] at hinv
        split
        · exact hinv
        · rfl
      subst hz
      clear hinv
      go_wp2
      go_ret
      exact ⟨rfl, hbw⟩

set_option maxHeartbeats 2000000 in
theorem rcount_any (l : List Rg) (A : Option Addr) (n c B : Nat) (w : World) (hr : Rd w B 2 A n (rgCells l)) (hn : n ≤ 4611686018427387904) (s : Int) (hs : sumL (setL l) = s) :
    Calls Try.prog 25 #[.slice A n c] w fun e w' => e = .returned (.int .i64 s) ∧ Below w.heap.size w w' := by
  have hr := hr.fits (by decide)
  have hl := hr.glen
  obtain ⟨v, hvl⟩ : ∃ v, validL l = v := ⟨_, rfl⟩
  have HVL := Lib.hid (fun (W : World) (h : Below w.heap.size w W) => rvalid_any l A n c w.heap.size W (hr.below h (Nat.le_refl _)) hn v hvl)
  have HR := Lib.hid hr
  have HL := Lib.hid hl
  have HV := Lib.hid hs
  have hmem : v = true → ∀ k, 0 ≤ sumL (l.take k) ∧ sumL (l.take k) ≤ 65537 - 0 := fun h => validGo_sum 0 l (by omega) (by omega) (by rw [← h, ← hvl]; rfl)
  have HM := Lib.hid hmem
  have hset : setL l = if v = true then l else [] := by rw [← hvl]; rfl
  have HS := Lib.hid hset
  clear hr hl hs hvl hmem hset
  go_enter Try.func25, Try.ntmps25
  go_wp2
  go_loopw [3, 4] (fun f i wr => ∃ (k : Nat), k ≤ n ∧ i = .int .i64 k ∧ f = .int .i64 (sumL (l.take k)) ∧ (v = true ∨ k = 0) ∧ Below w.heap.size w wr) (fun _ i _ => n - (intOf i).toNat)
  case atStart => exact ⟨0, by omega, rfl, rfl, .inr rfl, Below.refl _ _⟩
  case round =>
    obtain ⟨k, hk, rfl, rfl, hor, hbw⟩ := hrel
    by_cases hlt : k < n
    · have HB := Lib.hid hbw
      have HOR := Lib.hid hor
      clear hbw hor
      cases v
      · have hk0 : k = 0 := by rcases HOR.out with h | h; cases h; exact h
        have hz : s = sumL (l.take k) := by rw [← HV.out, HS.out, hk0]; simp [sumL]
        subst hz
        have HK0 := Lib.hid hk0
        clear hk0
        go_wp2_with fail
        refine (HVL.out _ HB.out).mono ?_
        rintro e w1 ⟨rfl, hb1⟩
        go_wp2
        go_ret
        exact ⟨rfl, ext_trans HB.out hb1⟩
      · go_wp2_with fail
        refine (HVL.out _ HB.out).mono ?_
        rintro e w1 ⟨rfl, hb1⟩
        have hbw := ext_trans HB.out hb1
        obtain ⟨b, off, rfl, hbl, hk', c0, c1⟩ := rg_cells (HR.out.below hbw (Nat.le_refl _)) k hlt
        have hst : sumL (l.take (k + 1)) = sumL (l.take k) + l[k].2 := by
          rw [List.take_succ_eq_append_getElem hk', sumL_append]; simp [sumL]
        have hs1 := HM.out (by trivial) k
        have hs2 := HM.out (by trivial) (k + 1)
        rw [hst] at hs2
        obtain ⟨⟨r1, r2⟩, hrv⟩ : ∃ r, l[k] = r := ⟨_, rfl⟩
        rw [hrv] at c0 c1 hst hs2
        simp only at c0 c1 hst hs2
        have HST := Lib.hid hst
        have HBW := Lib.hid hbw
        clear hrv hst hbw hb1 HVL
        go_wp2
        exact ⟨⟨k + 1, by omega, by go_num, by rw [HST.out], .inl (by trivial), HBW.out⟩, by simp [intOf]; omega⟩
    · obtain rfl : k = n := by omega
      have hz : s = sumL (l.take k) := by
        rw [← HV.out, HS.out]
        have e : l.take k = l := List.take_of_length_le (by rw [HL.out]; omega)
        rcases hor with h | h
        · rw [if_pos h, e]
        · subst h
          have : l = [] := List.eq_nil_of_length_eq_zero HL.out
          subst this
          split <;> rfl
      subst hz
      clear hor
      go_wp2
      go_ret
      exact ⟨rfl, hbw⟩

def allFrom (l : List Rg) (a : Int) : Nat → Bool
  | 0 => true
  | m + 1 => inL l a && allFrom l (a + 1) m
def rcovB (l : List Rg) (r : Rg) : Bool := okR 0 r && (validL l && allFrom l r.1 r.2.toNat)

set_option maxRecDepth 10000 in
set_option maxHeartbeats 4000000 in
theorem rcovers_any (l : List Rg) (A : Option Addr) (n c B : Nat) (x : Rg) (w : World) (hr : Rd w B 2 A n (rgCells l)) (hn : n ≤ 4611686018427387904) (r : Bool) (hv : rcovB l x = r) :
    Calls Try.prog 28 #[.slice A n c, rgV x] w fun e w' => e = .returned (.bool r) ∧ Below w.heap.size w w' := by
  have hr := hr.fits (by decide)
  have hl := hr.glen
  obtain ⟨x1, x2⟩ := x
  simp only [rgV]
  obtain ⟨q, hq⟩ : ∃ q, okR 0 (x1, x2) = q := ⟨_, rfl⟩
  have HQ := Lib.hid (fun W => rrange_any (x1, x2) W q hq)
  obtain ⟨v, hvl⟩ : ∃ v, validL l = v := ⟨_, rfl⟩
  have HVL := Lib.hid (fun (W : World) (h : Below w.heap.size w W) => rvalid_any l A n c w.heap.size W (hr.below h (Nat.le_refl _)) hn v hvl)
  have HR := Lib.hid hr
  have HL := Lib.hid hl
  have hmem : v = true → ∀ r ∈ l, 0 ≤ r.1 ∧ r.1 < 65536 ∧ 1 ≤ r.2 ∧ r.1 + r.2 ≤ 65536 := fun h => validGo_mem 0 l (by omega) (by rw [← h, ← hvl]; rfl)
  have HM := Lib.hid hmem
  rw [rcovB, hq, hvl] at hv
  have HV := Lib.hid hv
  have hbx := Box.alloc_ (w := w) (cs := #[.int .i64 x1, .int .i64 x2]) (e := 37)
  have HB := Lib.hid hbx
  have hb0 : Below w.heap.size w (w.alloc (.cells #[.int .i64 x1, .int .i64 x2] 37)) := ((Below.refl _ _).alloc (Nat.le_refl _) _)
  have HQK := Lib.hid hq
  clear hr hl hv hbx hvl hmem hq
  go_enter Try.func28, Try.ntmps28
  go_wp2_with fail
  refine (HQ.out _).mono ?_
  rintro e w1 ⟨rfl, hb1⟩
  have HB1 := Lib.hid (HB.out.below hb1)
  have hbw1 := ext_trans hb0 hb1
  clear HB hb0 hb1 HQ
  cases q
  · have hz : r = false := by rw [← HV.out]; rfl
    subst hz
    go_wp2
    go_ret
    exact ⟨rfl, hbw1⟩
  · have HBW1 := Lib.hid hbw1
    clear hbw1
    go_wp2_with fail
    refine (HVL.out _ HBW1.out).mono ?_
    rintro e w2 ⟨rfl, hb2⟩
    have HB2 := Lib.hid (HB1.out.below hb2)
    have hbw2 := ext_trans HBW1.out hb2
    clear hb2 HB1 HBW1 HVL
    cases v
    · have hz : r = false := by rw [← HV.out]; rfl
      subst hz
      go_wp2
      go_ret
      exact ⟨rfl, hbw2⟩
    · obtain ⟨y, yz, yl⟩ := HB2.out
      have y0 : w2.cell? ⟨w.heap.size, 0, none⟩ = some (.int .i64 x1) := y 0
      have y1 : w2.cell? ⟨w.heap.size, 1, none⟩ = some (.int .i64 x2) := y 1
      have hok := HQK.out
      simp only [okR, decide_eq_true_eq] at hok
      obtain ⟨k1, k2, k3, k4⟩ := hok
      simp only [Bool.true_and] at HV
      have HBW2 := Lib.hid hbw2
      have hlt2 : w.heap.size < w2.heap.size := yl
      have HLT2 := Lib.hid hlt2
      clear y yz yl hbw2 hlt2
      go_wp2_with fail
      go_loopw [5, 6, 7] (fun a _ _ wr => ∃ (j : Nat), (j : Int) ≤ x2 ∧ a = .int .i64 (x1 + j) ∧ allFrom l x1 x2.toNat = allFrom l (x1 + j) (x2.toNat - j) ∧ Below w2.heap.size w2 wr) (fun a _ _ _ => (x1 + x2 - intOf a).toNat)
      case atStart => exact ⟨0, by omega, by simp, by simp, Below.refl _ _⟩
      case round =>
        obtain ⟨j, hj, rfl, hinv, hbr⟩ := hrel
        have HI := Lib.hid hinv
        have z0 : wr.cell? ⟨w.heap.size, 0, none⟩ = some (.int .i64 x1) := (hbr.cell (p := ⟨w.heap.size, 0, none⟩) HLT2.out).trans y0
        have z1 : wr.cell? ⟨w.heap.size, 1, none⟩ = some (.int .i64 x2) := (hbr.cell (p := ⟨w.heap.size, 1, none⟩) HLT2.out).trans y1
        have HBR := Lib.hid hbr
        clear hinv hbr
        by_cases hlt : (j : Int) < x2
        · have hd : decide (x1 + (j : Int) < x1 + x2) = true := by simp; omega
          go_wp2_with fail
          go_loopw [6, 7] (fun f i wq => ∃ (k : Nat), k ≤ n ∧ i = .int .i64 k ∧ f = .bool ((l.take k).any (inR (x1 + j))) ∧ Below wr.heap.size wr wq) (fun _ i _ => n - (intOf i).toNat)
          case atStart => exact ⟨0, by omega, rfl, rfl, Below.refl _ _⟩
          case round =>
            obtain ⟨k, hk, rfl, rfl, hbq⟩ := hrel
            have hbW := ext_trans HBW2.out (ext_trans HBR.out hbq)
            have HBQ := Lib.hid hbq
            clear hbq
            by_cases hkn : k < n
            · obtain ⟨b, off, rfl, hbl, hk', c0, c1⟩ := rg_cells (HR.out.below hbW (Nat.le_refl _)) k hkn
              have hm := HM.out (by trivial) l[k] (List.getElem_mem _)
              have hst := any_step l k hk' (inR (x1 + j))
              obtain ⟨⟨r1, r2⟩, hrv⟩ : ∃ r, l[k] = r := ⟨_, rfl⟩
              rw [hrv] at c0 c1 hst hm
              simp only at c0 c1 hm
              obtain ⟨m1, m2, m3, m4⟩ := hm
              have HST := Lib.hid hst
              obtain ⟨f, hf⟩ : ∃ f, (l.take k).any (inR (x1 + j)) = f := ⟨_, rfl⟩
              rw [hf] at HST ⊢
              clear hrv hst hf hbW hd
              cases f
              · by_cases h1 : r1 ≤ x1 + (j : Int)
                · by_cases h2 : x1 + (j : Int) < r1 + r2
                  · have hz : inR (x1 + j) (r1, r2) = true := by simp [inR]; omega
                    have HZ := Lib.hid hz
                    clear hz
                    go_wp2_with fail
                    go_quiet (fail)
                    go_wp2
                    exact ⟨⟨k + 1, by omega, by go_num, by rw [HST.out, HZ.out]; rfl, below_drewN HBQ.out _⟩, by simp [intOf]; omega⟩
                  · have hz : inR (x1 + j) (r1, r2) = false := by simp [inR]; omega
                    have d2 : decide (x1 + (j : Int) < r1 + r2) = false := by simp; omega
                    have HZ := Lib.hid hz
                    clear hz h2
                    go_wp2_with fail
                    go_quiet (fail)
                    go_wp2
                    exact ⟨⟨k + 1, by omega, by go_num, by rw [HST.out, HZ.out]; rfl, below_drewN HBQ.out _⟩, by simp [intOf]; omega⟩
                · have hz : inR (x1 + j) (r1, r2) = false := by simp [inR]; omega
                  have d1 : decide (r1 ≤ x1 + (j : Int)) = false := by simp; omega
                  have HZ := Lib.hid hz
                  clear hz h1
                  go_wp2_with fail
                  go_quiet (fail)
                  go_wp2
                  exact ⟨⟨k + 1, by omega, by go_num, by rw [HST.out, HZ.out]; rfl, below_drewN HBQ.out _⟩, by simp [intOf]; omega⟩
              · go_wp2_with fail
                go_quiet (fail)
                go_wp2
                exact ⟨⟨k + 1, by omega, by go_num, by rw [HST.out]; rfl, below_drewN HBQ.out _⟩, by simp [intOf]; omega⟩
            · obtain rfl : k = n := by omega
              rw [List.take_of_length_le (by rw [HL.out]; omega)]
              have hm1 : x2.toNat - j = (x2.toNat - (j + 1)) + 1 := by omega
              have hi2 := HI.out
              rw [hm1, allFrom] at hi2
              obtain ⟨f, hf⟩ : ∃ f, l.any (inR (x1 + j)) = f := ⟨_, rfl⟩
              rw [inL, hf] at hi2
              rw [hf]
              have HI2 := Lib.hid hi2
              have HBR2 := Lib.hid (ext_trans HBR.out HBQ.out)
              clear hm1 hi2 hf hbW
              cases f
              · have hz : r = false := by rw [← HV.out, HI2.out]; rfl
                subst hz
                go_wp2
                go_ret
                exact ⟨rfl, ext_trans HBW2.out HBR2.out⟩
              · go_wp2
                exact ⟨⟨j + 1, by omega, by go_num, by rw [HI2.out]; simp [Int.add_assoc], HBR2.out⟩, by simp [intOf]; omega⟩
        · have hd : decide (x1 + (j : Int) < x1 + x2) = false := by simp; omega
          have hd2 : decide ((j : Int) < x2) = false := by simp; omega
          have hz : r = true := by
            rw [← HV.out, HI.out, show x2.toNat - j = 0 by omega]; rfl
          subst hz
          clear hlt
          go_wp2
          go_ret
          exact ⟨rfl, ext_trans HBW2.out HBR.out⟩

set_option maxHeartbeats 1000000 in
theorem same_any (rs : List Rg) (A A2 : Option Addr) (n c c2 B B2 : Nat) (w : World) (hr : Rd w B 2 A n (rgCells rs)) (hr2 : Rd w B2 2 A2 n (rgCells rs)) (hn : n ≤ 4611686018427387904) :
    Calls Try.prog 11 #[.slice A n c, .slice A2 n c2] w fun e w' => e = .returned (.bool true) ∧ Below w.heap.size w w' := by
  have HR := Lib.hid (hr.fits (by decide))
  have HR2 := Lib.hid (hr2.fits (by decide))
  clear hr hr2
  go_enter Try.func11, Try.ntmps11
  go_wp2
  go_loopw [5] (fun i wr => ∃ k : Nat, k ≤ n ∧ i = .int .i64 k ∧ ∃ z, wr = w.drewN z) (fun i _ => n - (intOf i).toNat)
  case atStart => exact ⟨0, by omega, rfl, 0, rfl⟩
  case round =>
    obtain ⟨k, hk, rfl, z, rfl⟩ := hrel
    by_cases hlt : k < n
    · obtain ⟨b1, o1, rfl, _, hk1, x0, x1⟩ := rg_cells HR.out k hlt
      obtain ⟨b2, o2, rfl, _, hk2, y0, y1⟩ := rg_cells HR2.out k hlt
      obtain ⟨r1, hr1⟩ : ∃ r1 : Int, rs[k].1 = r1 := ⟨_, rfl⟩
      obtain ⟨r2, hr2⟩ : ∃ r2, rs[k].2 = r2 := ⟨_, rfl⟩
      rw [hr1] at x0 y0
      rw [hr2] at x1 y1
      clear hr1 hr2
      go_wp2_with fail
      go_quiet (fail)
      go_wp2
      exact ⟨⟨k + 1, by omega, by go_num, by first | exact ⟨_, rfl⟩ | exact ⟨_, (World.drewN_add ..).symm⟩⟩, by simp [intOf]; omega⟩
    · obtain rfl : k = n := by omega
      go_wp2
      go_ret
      exact ⟨by trivial, below_drewN (Below.refl _ _) z⟩
end Go.Proofs.Ytebeaghombjooaa

/- The reference's Range and Covers (picked out of XRa, XRc, XRd, XRe by pick.py; rgvalid_any is called rgvalid_any) -/
import Derived.Test.YtipcnpnfdoainaaSlR
set_option linter.unusedVariables false
set_option linter.unusedSimpArgs false
namespace Go.Proofs.Ytipcnpnfdoainaa
open Go.RowKit

def inR (a : Int) (r : Rg) : Bool := decide (r.1 ≤ a ∧ a < r.1 + r.2)
def inL (l : List Rg) (a : Int) : Bool := l.any (inR a)
theorem validGo_mem (e : Int) (l : List Rg) (he : 0 ≤ e) (h : validGo e l = true) : ∀ r ∈ l, e ≤ r.1 ∧ r.1 < 65536 ∧ 1 ≤ r.2 ∧ r.1 + r.2 ≤ 65536 := by
  induction l generalizing e with
  | nil => intro r hr; cases hr
  | cons x t ih =>
    simp only [validGo, okR, Bool.and_eq_true, decide_eq_true_eq] at h
    obtain ⟨h1, h2⟩ := h
    intro r hr
    rcases List.mem_cons.1 hr with rfl | hr
    · omega
    · have := ih _ (by omega) h2 r hr; omega
abbrev rgV (r : Rg) : Value := .agg #[.int .i64 r.1, .int .i64 r.2]
set_option maxHeartbeats 1000000 in
theorem rrange_any (x : Rg) (w : World) (r : Bool) (hv : okR 0 x = r) :
    Calls Try.prog 43 #[rgV x] w fun e w' => e = .returned (.bool r) ∧ Below w.heap.size w w' := by
  obtain ⟨r1, r2⟩ := x
  simp only [rgV]
  by_cases h1 : 0 ≤ r1
  · by_cases h2 : r1 < 65536
    · by_cases h3 : 1 ≤ r2
      · by_cases h4 : r2 ≤ 65536 - r1
        · obtain rfl : true = r := by rw [← hv]; simp [okR]; omega
          clear hv
          go_enter Try.func43, Try.ntmps43
          go_wp2
          go_ret
          exact ⟨rfl, (Below.refl _ _).alloc (Nat.le_refl _) _⟩
        · obtain rfl : false = r := by rw [← hv]; simp [okR]; omega
          have d4 : decide (r2 ≤ 65536 - r1) = false := by simp; omega
          clear hv h4
          go_enter Try.func43, Try.ntmps43
          go_wp2
          go_ret
          exact ⟨rfl, (Below.refl _ _).alloc (Nat.le_refl _) _⟩
      · obtain rfl : false = r := by rw [← hv]; simp [okR]; omega
        have d3 : decide (1 ≤ r2) = false := by simp; omega
        clear hv h3
        go_enter Try.func43, Try.ntmps43
        go_wp2
        go_ret
        exact ⟨rfl, (Below.refl _ _).alloc (Nat.le_refl _) _⟩
    · obtain rfl : false = r := by rw [← hv]; simp [okR]; omega
      have d2 : decide (r1 < 65536) = false := by simp; omega
      clear hv h2
      go_enter Try.func43, Try.ntmps43
      go_wp2
      go_ret
      exact ⟨rfl, (Below.refl _ _).alloc (Nat.le_refl _) _⟩
  · obtain rfl : false = r := by rw [← hv]; simp [okR]; omega
    have d1 : decide (0 ≤ r1) = false := by simp; omega
    clear hv h1
    go_enter Try.func43, Try.ntmps43
    go_wp2
    go_ret
    exact ⟨rfl, (Below.refl _ _).alloc (Nat.le_refl _) _⟩
theorem any_step (l : List Rg) (k : Nat) (hk : k < l.length) (p : Rg → Bool) : (l.take (k + 1)).any p = ((l.take k).any p || p l[k]) := by
  rw [List.take_succ_eq_append_getElem hk, List.any_append]; simp
def allFrom (l : List Rg) (a : Int) : Nat → Bool
  | 0 => true
  | m + 1 => inL l a && allFrom l (a + 1) m
def rcovB (l : List Rg) (r : Rg) : Bool := okR 0 r && (validL l && allFrom l r.1 r.2.toNat)
set_option maxRecDepth 10000 in
set_option maxHeartbeats 4000000 in
theorem rcovers_any (l : List Rg) (A : Option Addr) (n c B : Nat) (x : Rg) (w : World) (hr : Rd w B 2 A n (rgCells l)) (hn : n ≤ 4611686018427387904) (r : Bool) (hv : rcovB l x = r) :
    Calls Try.prog 39 #[.slice A n c, rgV x] w fun e w' => e = .returned (.bool r) ∧ Below w.heap.size w w' := by
  have hr := hr.fits (by decide)
  have hl := hr.glen
  obtain ⟨x1, x2⟩ := x
  simp only [rgV]
  obtain ⟨q, hq⟩ : ∃ q, okR 0 (x1, x2) = q := ⟨_, rfl⟩
  have HQ := Lib.hid (fun W => rrange_any (x1, x2) W q hq)
  obtain ⟨v, hvl⟩ : ∃ v, validL l = v := ⟨_, rfl⟩
  have HVL := Lib.hid (fun (W : World) (h : Below w.heap.size w W) => rgvalid_any l A n c w.heap.size W (hr.below h (Nat.le_refl _)) hn v hvl)
  have HR := Lib.hid hr
  have HL := Lib.hid hl
  have hmem : v = true → ∀ r ∈ l, 0 ≤ r.1 ∧ r.1 < 65536 ∧ 1 ≤ r.2 ∧ r.1 + r.2 ≤ 65536 := fun h => validGo_mem 0 l (by omega) (by rw [← h, ← hvl]; rfl)
  have HM := Lib.hid hmem
  rw [rcovB, hq, hvl] at hv
  have HV := Lib.hid hv
  have hbx := Box.alloc_ (w := w) (cs := #[.int .i64 x1, .int .i64 x2]) (e := 83)
  have HB := Lib.hid hbx
  have hb0 : Below w.heap.size w (w.alloc (.cells #[.int .i64 x1, .int .i64 x2] 83)) := ((Below.refl _ _).alloc (Nat.le_refl _) _)
  have HQK := Lib.hid hq
  clear hr hl hv hbx hvl hmem hq
  go_enter Try.func39, Try.ntmps39
  go_wp2_with fail
  refine (HQ.out _).mono ?_
  rintro e w1 ⟨rfl, hb1⟩
  have HB1 := Lib.hid (HB.out.below hb1)
  have hbw1 := ext_trans hb0 hb1
  clear HB hb0 hb1 HQ
  cases q
  · have hz : r = false := by rw [← HV.out]; rfl
    subst hz
    go_wp2
    go_ret
    exact ⟨rfl, hbw1⟩
  · have HBW1 := Lib.hid hbw1
    clear hbw1
    go_wp2_with fail
    refine (HVL.out _ HBW1.out).mono ?_
    rintro e w2 ⟨rfl, hb2⟩
    have HB2 := Lib.hid (HB1.out.below hb2)
    have hbw2 := ext_trans HBW1.out hb2
    clear hb2 HB1 HBW1 HVL
    cases v
    · have hz : r = false := by rw [← HV.out]; rfl
      subst hz
      go_wp2
      go_ret
      exact ⟨rfl, hbw2⟩
    · obtain ⟨y, yz, yl⟩ := HB2.out
      have y0 : w2.cell? ⟨w.heap.size, 0, none⟩ = some (.int .i64 x1) := y 0
      have y1 : w2.cell? ⟨w.heap.size, 1, none⟩ = some (.int .i64 x2) := y 1
      have hok := HQK.out
      simp only [okR, decide_eq_true_eq] at hok
      obtain ⟨k1, k2, k3, k4⟩ := hok
      simp only [Bool.true_and] at HV
      have HBW2 := Lib.hid hbw2
      have hlt2 : w.heap.size < w2.heap.size := yl
      have HLT2 := Lib.hid hlt2
      clear y yz yl hbw2 hlt2
      go_wp2_with fail
      go_loopw [5, 6, 7] (fun a _ _ wr => ∃ (j : Nat), (j : Int) ≤ x2 ∧ a = .int .i64 (x1 + j) ∧ allFrom l x1 x2.toNat = allFrom l (x1 + j) (x2.toNat - j) ∧ Below w2.heap.size w2 wr) (fun a _ _ _ => (x1 + x2 - intOf a).toNat)
      case atStart => exact ⟨0, by omega, by simp, by simp, Below.refl _ _⟩
      case round =>
        obtain ⟨j, hj, rfl, hinv, hbr⟩ := hrel
        have HI := Lib.hid hinv
        have z0 : wr.cell? ⟨w.heap.size, 0, none⟩ = some (.int .i64 x1) := (hbr.cell (p := ⟨w.heap.size, 0, none⟩) HLT2.out).trans y0
        have z1 : wr.cell? ⟨w.heap.size, 1, none⟩ = some (.int .i64 x2) := (hbr.cell (p := ⟨w.heap.size, 1, none⟩) HLT2.out).trans y1
        have HBR := Lib.hid hbr
        clear hinv hbr
        by_cases hlt : (j : Int) < x2
        · have hd : decide (x1 + (j : Int) < x1 + x2) = true := by simp; omega
          go_wp2_with fail
          go_loopw [6, 7] (fun f i wq => ∃ (k : Nat), k ≤ n ∧ i = .int .i64 k ∧ f = .bool ((l.take k).any (inR (x1 + j))) ∧ Below wr.heap.size wr wq) (fun _ i _ => n - (intOf i).toNat)
          case atStart => exact ⟨0, by omega, rfl, rfl, Below.refl _ _⟩
          case round =>
            obtain ⟨k, hk, rfl, rfl, hbq⟩ := hrel
            have hbW := ext_trans HBW2.out (ext_trans HBR.out hbq)
            have HBQ := Lib.hid hbq
            clear hbq
            by_cases hkn : k < n
            · obtain ⟨b, off, rfl, hbl, hk', c0, c1⟩ := rg_cells (HR.out.below hbW (Nat.le_refl _)) k hkn
              have hm := HM.out (by trivial) l[k] (List.getElem_mem _)
              have hst := any_step l k hk' (inR (x1 + j))
              obtain ⟨⟨r1, r2⟩, hrv⟩ : ∃ r, l[k] = r := ⟨_, rfl⟩
              rw [hrv] at c0 c1 hst hm
              simp only at c0 c1 hm
              obtain ⟨m1, m2, m3, m4⟩ := hm
              have HST := Lib.hid hst
              obtain ⟨f, hf⟩ : ∃ f, (l.take k).any (inR (x1 + j)) = f := ⟨_, rfl⟩
              rw [hf] at HST ⊢
              clear hrv hst hf hbW hd
              cases f
              · by_cases h1 : r1 ≤ x1 + (j : Int)
                · by_cases h2 : x1 + (j : Int) < r1 + r2
                  · have hz : inR (x1 + j) (r1, r2) = true := by simp [inR]; omega
                    have HZ := Lib.hid hz
                    clear hz
                    go_wp2_with fail
                    go_quiet (fail)
                    go_wp2
                    exact ⟨⟨k + 1, by omega, by go_num, by rw [HST.out, HZ.out]; rfl, below_drewN HBQ.out _⟩, by simp [intOf]; omega⟩
                  · have hz : inR (x1 + j) (r1, r2) = false := by simp [inR]; omega
                    have d2 : decide (x1 + (j : Int) < r1 + r2) = false := by simp; omega
                    have HZ := Lib.hid hz
                    clear hz h2
                    go_wp2_with fail
                    go_quiet (fail)
                    go_wp2
                    exact ⟨⟨k + 1, by omega, by go_num, by rw [HST.out, HZ.out]; rfl, below_drewN HBQ.out _⟩, by simp [intOf]; omega⟩
                · have hz : inR (x1 + j) (r1, r2) = false := by simp [inR]; omega
                  have d1 : decide (r1 ≤ x1 + (j : Int)) = false := by simp; omega
                  have HZ := Lib.hid hz
                  clear hz h1
                  go_wp2_with fail
                  go_quiet (fail)
                  go_wp2
                  exact ⟨⟨k + 1, by omega, by go_num, by rw [HST.out, HZ.out]; rfl, below_drewN HBQ.out _⟩, by simp [intOf]; omega⟩
              · go_wp2_with fail
                go_quiet (fail)
                go_wp2
                exact ⟨⟨k + 1, by omega, by go_num, by rw [HST.out]; rfl, below_drewN HBQ.out _⟩, by simp [intOf]; omega⟩
            · obtain rfl : k = n := by omega
              rw [List.take_of_length_le (by rw [HL.out]; omega)]
              have hm1 : x2.toNat - j = (x2.toNat - (j + 1)) + 1 := by omega
              have hi2 := HI.out
              rw [hm1, allFrom] at hi2
              obtain ⟨f, hf⟩ : ∃ f, l.any (inR (x1 + j)) = f := ⟨_, rfl⟩
              rw [inL, hf] at hi2
              rw [hf]
              have HI2 := Lib.hid hi2
              have HBR2 := Lib.hid (ext_trans HBR.out HBQ.out)
              clear hm1 hi2 hf hbW
              cases f
              · have hz : r = false := by rw [← HV.out, HI2.out]; rfl
                subst hz
                go_wp2
                go_ret
                exact ⟨rfl, ext_trans HBW2.out HBR2.out⟩
              · go_wp2
                exact ⟨⟨j + 1, by omega, by go_num, by rw [HI2.out]; simp [Int.add_assoc], HBR2.out⟩, by simp [intOf]; omega⟩
        · have hd : decide (x1 + (j : Int) < x1 + x2) = false := by simp; omega
          have hd2 : decide ((j : Int) < x2) = false := by simp; omega
          have hz : r = true := by
            rw [← HV.out, HI.out, show x2.toNat - j = 0 by omega]; rfl
          subst hz
          clear hlt
          go_wp2
          go_ret
          exact ⟨rfl, ext_trans HBW2.out HBR.out⟩
end Go.Proofs.Ytipcnpnfdoainaa

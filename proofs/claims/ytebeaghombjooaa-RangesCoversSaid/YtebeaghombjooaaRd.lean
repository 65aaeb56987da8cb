/- Layer 12: contracts of ranges.Covers and of the reference's Valid, Range. -/
import Derived.Test.YtebeaghombjooaaRc
set_option linter.unusedVariables false
set_option linter.unusedSimpArgs false
namespace Go.Proofs.Ytebeaghombjooaa
open Go.RowKit

def covR (r x : Rg) : Bool := decide (x.1 ≤ r.1 ∧ r.1 + r.2 ≤ x.1 + x.2)
def covB (l : List Rg) (r : Rg) : Bool := okR 0 r && (setL l).any (covR r)

set_option maxHeartbeats 1000000 in
theorem covers1_any (r x : Rg) (g : Nat) (w : World) (hB : Box w g #[.int .i64 r.1, .int .i64 r.2]) (h : 0 ≤ x.1 ∧ x.1 < 65536 ∧ 1 ≤ x.2 ∧ x.1 + x.2 ≤ 65536) (hr : okR 0 r = true) :
    Calls Try.prog 43 #[rgV x, .pointer (some ⟨g, 0, none⟩)] w fun e w' => e = .returned (.bool (covR r x)) ∧ Below w.heap.size w w' := by
  obtain ⟨r1, r2⟩ := r
  obtain ⟨x1, x2⟩ := x
  obtain ⟨h1, h2, h3, h4⟩ := h
  have hB2 := hB.alloc' (.cells #[.int .i64 x1, .int .i64 x2] 37)
  simp only [okR, decide_eq_true_eq] at hr
  obtain ⟨g1, g2, g3, g4⟩ := hr
  simp only [rgV] at h1 h2 h3 h4 g1 g2 g3 g4 hB2 ⊢
  obtain ⟨q, z, lq⟩ := hB2
  clear hB
  by_cases k1 : x1 ≤ r1
  · by_cases k2 : r1 + r2 ≤ x1 + x2
    · have hz : covR (r1, r2) (x1, x2) = true := by simp [covR]; omega
      rw [hz]
      clear hz
      go_enter Try.func43, Try.ntmps43
      go_wp2
      go_ret
      exact ⟨rfl, (Below.refl _ _).alloc (Nat.le_refl _) _⟩
    · have hz : covR (r1, r2) (x1, x2) = false := by simp [covR]; omega
      have k2' : decide (r1 + r2 ≤ x1 + x2) = false := by simp; omega
      rw [hz]
      clear hz k2
      go_enter Try.func43, Try.ntmps43
      go_wp2
      go_ret
      exact ⟨rfl, (Below.refl _ _).alloc (Nat.le_refl _) _⟩
  · have hz : covR (r1, r2) (x1, x2) = false := by simp [covR]; omega
    have k1' : decide (x1 ≤ r1) = false := by simp; omega
    rw [hz]
    clear hz k1
    go_enter Try.func43, Try.ntmps43
    go_wp2
    go_ret
    exact ⟨rfl, (Below.refl _ _).alloc (Nat.le_refl _) _⟩

set_option maxHeartbeats 1000000 in
theorem covers_any (l : List Rg) (A : Option Addr) (n c B : Nat) (x : Rg) (w : World) (hr : Rd w B 2 A n (rgCells l)) (hn : n ≤ 4611686018427387904) (r : Bool) (hv : covB l x = r) :
    Calls Try.prog 27 #[.slice A n c, rgV x] w fun e w' => e = .returned (.bool r) ∧ Below w.heap.size w w' := by
  have hr := hr.fits (by decide)
  obtain ⟨x1, x2⟩ := x
  simp only [rgV]
  obtain ⟨q, hq⟩ : ∃ q, okR 0 (x1, x2) = q := ⟨_, rfl⟩
  have hvl : validL [(x1, x2)] = q := by rw [← hq]; simp [validL, validGo]
  have HVL := Lib.hid (fun (W : World) (h : Rd W W.heap.size 2 (some ⟨w.heap.size + 1, 0, none⟩) 1 (rgCells [(x1, x2)])) => valid_any [(x1, x2)] (some ⟨w.heap.size + 1, 0, none⟩) 1 1 _ W h (by omega) q hvl)
  have HS := Lib.hid (fun (W : World) (h : Below w.heap.size w W) => set_any l A n c w.heap.size W (hr.below h (Nat.le_refl _)) hn)
  have HV := Lib.hid hv
  have hbx := Box.alloc_ (w := w) (cs := #[.int .i64 x1, .int .i64 x2]) (e := 37)
  have HB := Lib.hid (hbx.alloc' (.cells #[.int .i64 x1, .int .i64 x2] 37))
  have hb0 : Below w.heap.size w ((w.alloc (.cells #[.int .i64 x1, .int .i64 x2] 37)).alloc (.cells #[.int .i64 x1, .int .i64 x2] 37)) := ((Below.refl _ _).alloc (Nat.le_refl _) _).alloc (by simp) _
  have HB0 := Lib.hid hb0
  have HRL := Lib.hid (Rd.lit (w := w.alloc (.cells #[.int .i64 x1, .int .i64 x2] 37)) (size := 2) (n := 1) (cs := #[.int .i64 x1, .int .i64 x2]) (e := 37) (fz := (0, 0)) (B := ((w.alloc (.cells #[.int .i64 x1, .int .i64 x2] 37)).alloc (.cells #[.int .i64 x1, .int .i64 x2] 37)).heap.size) rfl (by simp))
  clear hr hv hbx hb0 hvl
  go_enter Try.func27, Try.ntmps27
  go_wp2_with fail
  refine (HVL.out _ (by simpa [rgCells, rgRow] using HRL.out)).mono ?_
  rintro e w1 ⟨rfl, hb1⟩
  have hB1 := HB.out.below hb1
  have hbw := ext_trans HB0.out hb1
  clear hb1 HVL HRL HB HB0
  cases q
  · have hz : r = false := by rw [← HV.out, covB, hq]; rfl
    subst hz
    go_wp2
    go_ret
    exact ⟨rfl, hbw⟩
  · have HB1 := Lib.hid hB1
    have HBW := Lib.hid hbw
    have HQ := Lib.hid hq
    clear hB1 hbw hq
    go_wp2_with fail
    refine (HS.out _ HBW.out).mono ?_
    rintro e w2 ⟨⟨A1, n1, c1, rfl, hn1, hR1⟩, hb2⟩
    have hB2 := HB1.out.below hb2
    have HP := Lib.hid (show PredR 43 (.pointer (some ⟨w.heap.size, 0, none⟩)) (covR (x1, x2)) w2 (setL l) from fun r hr W hW => covers1_any (x1, x2) r w.heap.size W (hB2.below hW) (setL_mem l r hr) HQ.out)
    have hbw := ext_trans HBW.out hb2
    have HC := Lib.hid (containsFunc_any 43 (.pointer (some ⟨w.heap.size, 0, none⟩)) (enters_of Try.func43 (by kernel_rfl) rfl) (covR (x1, x2)) (setL l) A1 n1 c1 _ w2 hR1 (by omega) HP.out)
    clear hB2 hb2 hR1 HP HS HB1 HBW
    go_wp2_with fail
    refine HC.out.mono ?_
    rintro e w3 ⟨rfl, hb3⟩
    go_wp2
    go_ret
    exact ⟨by rw [← HV.out, covB, HQ.out]; rfl, ext_trans hbw hb3⟩

set_option maxHeartbeats 2000000 in
theorem rvalid_any (l : List Rg) (A : Option Addr) (n c B : Nat) (w : World) (hr : Rd w B 2 A n (rgCells l)) (hn : n ≤ 4611686018427387904) (r : Bool) (hv : validL l = r) :
    Calls Try.prog 24 #[.slice A n c] w fun e w' => e = .returned (.bool r) ∧ Below w.heap.size w w' := by
  have hr := hr.fits (by decide)
  have hl := hr.glen
  have HR := Lib.hid hr
  have HL := Lib.hid hl
  have HV := Lib.hid hv
  clear hr hl hv
  go_enter Try.func24, Try.ntmps24
  go_wp2
  go_loopw [3, 4] (fun f i wr => ∃ (k : Nat) (e : Int), k ≤ n ∧ i = .int .i64 k ∧ f = .int .i64 e ∧ -1 ≤ e ∧ e ≤ 65536 ∧ validL l = validGo (e + 1) (l.drop k) ∧ Below w.heap.size w wr) (fun _ i _ => n - (intOf i).toNat)
  case atStart => exact ⟨0, -1, by omega, rfl, rfl, by omega, by omega, rfl, Below.refl _ _⟩
  case round =>
    obtain ⟨k, e, hk, rfl, rfl, he1, he2, hinv, hbw⟩ := hrel
    by_cases hlt : k < n
    · obtain ⟨b, off, rfl, hbl, hk', c0, c1⟩ := rg_cells (HR.out.below hbw (Nat.le_refl _)) k hlt
      rw [drop_step l k hk'] at hinv
      obtain ⟨⟨r1, r2⟩, hrv⟩ : ∃ r, l[k] = r := ⟨_, rfl⟩
      rw [hrv] at hinv c0 c1
      simp only [validGo] at hinv
      simp only at c0 c1
      have HI := Lib.hid hinv
      have HB := Lib.hid hbw
      clear hinv hrv hbw
      have fin : okR (e + 1) (r1, r2) = false → r = false := by
        intro h; rw [← HV.out, HI.out, h]; rfl
      have FIN := Lib.hid fin
      clear fin
      by_cases h1 : r1 ≤ e
      · obtain rfl := FIN.out (by simp [okR]; omega)
        go_wp2_with fail
        go_quiet (fail)
        go_wp2
        go_ret
        exact ⟨rfl, below_drewN HB.out _⟩
      · have d1 : decide (r1 ≤ e) = false := by simp; omega
        have d1' : e < r1 := by omega
        have d1n : decide (r1 < 0) = false := by simp; omega
        clear h1
        by_cases h2 : 65536 ≤ r1
        · obtain rfl := FIN.out (by simp [okR]; omega)
          go_wp2_with fail
          go_quiet (fail)
          go_wp2
          go_ret
          exact ⟨rfl, below_drewN HB.out _⟩
        · have d2 : decide (65536 ≤ r1) = false := by simp; omega
          have d2' : r1 < 65536 := by omega
          clear h2
          by_cases h3 : r2 < 1
          · obtain rfl := FIN.out (by simp [okR]; omega)
            go_wp2_with fail
            go_quiet (fail)
            go_wp2
            go_ret
            exact ⟨rfl, below_drewN HB.out _⟩
          · have d3 : decide (r2 < 1) = false := by simp; omega
            have d3' : 1 ≤ r2 := by omega
            clear h3
            by_cases h4 : 65536 - r1 < r2
            · obtain rfl := FIN.out (by simp [okR]; omega)
              go_wp2_with fail
              go_quiet (fail)
              go_wp2
              go_ret
              exact ⟨rfl, below_drewN HB.out _⟩
            · have d4 : decide (65536 - r1 < r2) = false := by simp; omega
              have d4' : r2 ≤ 65536 - r1 := by omega
              clear h4
              go_wp2_with fail
              go_quiet (fail)
              go_wp2_with fail
              go_quiet (fail)
              go_wp2
              refine ⟨⟨k + 1, r1 + r2, by omega, by go_num, rfl, by omega, by omega, ?_, by first | exact below_drewN (below_drewN HB.out _) _ | exact below_drewN HB.out _⟩, by simp [intOf]; omega⟩
              rw [HI.out]
              have : okR (e + 1) (r1, r2) = true := by simp [okR]; omega
              rw [this]; rfl
    · obtain rfl : k = n := by omega
      rw [List.drop_of_length_le (by rw [HL.out]; omega)] at hinv
      have hz : r = true := by rw [← HV.out, hinv]; rfl
      subst hz
      clear hinv
      go_wp2
      go_ret
      exact ⟨rfl, hbw⟩

set_option maxHeartbeats 1000000 in
theorem rrange_any (x : Rg) (w : World) (r : Bool) (hv : okR 0 x = r) :
    Calls Try.prog 44 #[rgV x] w fun e w' => e = .returned (.bool r) ∧ Below w.heap.size w w' := by
  obtain ⟨r1, r2⟩ := x
  simp only [rgV]
  by_cases h1 : 0 ≤ r1
  · by_cases h2 : r1 < 65536
    · by_cases h3 : 1 ≤ r2
      · by_cases h4 : r2 ≤ 65536 - r1
        · obtain rfl : true = r := by rw [← hv]; simp [okR]; omega
          clear hv
          go_enter Try.func44, Try.ntmps44
          go_wp2
          go_ret
          exact ⟨rfl, (Below.refl _ _).alloc (Nat.le_refl _) _⟩
        · obtain rfl : false = r := by rw [← hv]; simp [okR]; omega
          have d4 : decide (r2 ≤ 65536 - r1) = false := by simp; omega
          clear hv h4
          go_enter Try.func44, Try.ntmps44
          go_wp2
          go_ret
          exact ⟨rfl, (Below.refl _ _).alloc (Nat.le_refl _) _⟩
      · obtain rfl : false = r := by rw [← hv]; simp [okR]; omega
        have d3 : decide (1 ≤ r2) = false := by simp; omega
        clear hv h3
        go_enter Try.func44, Try.ntmps44
        go_wp2
        go_ret
        exact ⟨rfl, (Below.refl _ _).alloc (Nat.le_refl _) _⟩
    · obtain rfl : false = r := by rw [← hv]; simp [okR]; omega
      have d2 : decide (r1 < 65536) = false := by simp; omega
      clear hv h2
      go_enter Try.func44, Try.ntmps44
      go_wp2
      go_ret
      exact ⟨rfl, (Below.refl _ _).alloc (Nat.le_refl _) _⟩
  · obtain rfl : false = r := by rw [← hv]; simp [okR]; omega
    have d1 : decide (0 ≤ r1) = false := by simp; omega
    clear hv h1
    go_enter Try.func44, Try.ntmps44
    go_wp2
    go_ret
    exact ⟨rfl, (Below.refl _ _).alloc (Nat.le_refl _) _⟩
end Go.Proofs.Ytebeaghombjooaa

/- Layer 12: contract of the reference's Clip. -/
import Derived.Test.YtebeaghombjooaaRh
set_option linter.unusedVariables false
set_option linter.unusedSimpArgs false
namespace Go.Proofs.Ytebeaghombjooaa
open Go.RowKit

/-- Is the address in the range (whatever range)? -/
def inC (r : Rg) (a : Int) : Bool := decide (1 ≤ r.2 ∧ r.1 ≤ a ∧ a < r.1 + r.2)
def clipF (r : Rg) (f : Nat → Bool) (n : Nat) : Nat → Bool := fun i => if i < n then f i && inC r i else f i
theorem clipF_step (r : Rg) (f : Nat → Bool) (n : Nat) (i : Nat) : clipF r f (n + 1) i = if i = n then (f n && inC r n) else clipF r f n i := by
  unfold clipF
  by_cases e : i = n
  · subst e; rw [if_pos (by omega), if_pos rfl]
  · rw [if_neg e]
    by_cases h2 : i < n
    · rw [if_pos (by omega), if_pos h2]
    · rw [if_neg (by omega), if_neg h2]
set_option maxRecDepth 10000 in
set_option maxHeartbeats 4000000 in
theorem rclip_any (l : List Rg) (A : Option Addr) (n c B N : Nat) (x : Rg) (w : World) (hr : Rd w B 2 A n (rgCells l)) (hn : n ≤ 4611686018427387904) (hN : N = 65536)
    (hx1 : -9223372036854775808 ≤ x.1 ∧ x.1 ≤ 9223372036854775807) (hx2 : -9223372036854775808 ≤ x.2 ∧ x.2 ≤ 9223372036854775807) :
    Calls Try.prog 23 #[.slice A n c, rgV x] w (RetR w (closeTo (clipF x (openF l) N) N)) := by
  have hr := hr.fits (by decide)
  obtain ⟨x1, x2⟩ := x
  simp only [rgV] at hx1 hx2 ⊢
  have HO1 := Lib.hid (fun (W : World) (h : Below w.heap.size w W) => open_any l A n c w.heap.size N W (hr.below h (Nat.le_refl _)) hn hN)
  have HCL := Lib.hid (fun (f : Nat → Bool) (W : World) (g c : Nat) (h : Rd W W.heap.size 1 (some ⟨g, 0, none⟩) N (flagCells f N)) => close_any f (some ⟨g, 0, none⟩) c _ N W h (by omega) (by omega))
  have HNN := Lib.hid (show N ≤ 65536 by omega)
  obtain ⟨F, hF⟩ : ∃ F, openF l = F := ⟨_, rfl⟩
  simp only [hF] at HO1 ⊢
  have hbx := Box.alloc_ (w := w) (cs := #[.int .i64 x1, .int .i64 x2]) (e := 37)
  have HB := Lib.hid hbx
  have hb0 : Below w.heap.size w (w.alloc (.cells #[.int .i64 x1, .int .i64 x2] 37)) := ((Below.refl _ _).alloc (Nat.le_refl _) _)
  have HB0 := Lib.hid hb0
  obtain ⟨J, hJ⟩ : ∃ J, clipF (x1, x2) F = J := ⟨_, rfl⟩
  have HST0 := Lib.hid (show ∀ k i, J (k + 1) i = if i = k then (F k && inC (x1, x2) k) else J k i from fun k i => by rw [← hJ]; exact clipF_step (x1, x2) F k i)
  have HX0 := Lib.hid (show ∀ k, J k k = F k from fun k => by rw [← hJ]; exact if_neg (by omega))
  have HJ0 := Lib.hid (show ∀ i, F i = J 0 i from fun i => by rw [← hJ]; exact (if_neg (by omega)).symm)
  rw [hJ]
  clear hr hN hF hJ hbx hb0
  go_enter Try.func23, Try.ntmps23
  go_wp2_with fail
  refine (HO1.out _ HB0.out).mono ?_
  rintro e w1 ⟨⟨g1, rfl, hf1⟩, hb1⟩
  have hbx := HB.out.below hb1
  have hbw := ext_trans HB0.out hb1
  have hg1 := hf1.base
  have hsz0 : (w.alloc (.cells #[.int .i64 x1, .int .i64 x2] 37)).heap.size = w.heap.size + 1 := by simp
  rw [hsz0] at hg1 hf1
  clear HO1 hb1 hsz0 HB HB0
  go_wp2_with fail
  go_loopw [6] (fun i wr => ∃ (k : Nat), k ≤ N ∧ i = .int .i64 k ∧ Flags wr (w.heap.size + 1) g1 N (J k) N ∧ Box wr w.heap.size #[.int .i64 x1, .int .i64 x2] ∧ Below w.heap.size w wr) (fun i _ => N - (intOf i).toNat)
  case atStart => exact ⟨0, by omega, rfl, hf1.congr (fun i _ => HJ0.out i), hbx, hbw⟩
  case round =>
    obtain ⟨k, hk, rfl, hFk, hBx, hbr⟩ := hrel
    clear hf1 hbx hbw
    have hNN := HNN.out
    have HBX := Lib.hid hBx
    by_cases hlt : k < N
    · obtain ⟨y, yz, yl⟩ := hBx
      have y0 : wr.cell? ⟨w.heap.size, 0, none⟩ = some (.int .i64 x1) := y 0
      have y1 : wr.cell? ⟨w.heap.size, 1, none⟩ = some (.int .i64 x2) := y 1
      have cx := hFk.cell k hlt
      have hfz := hFk.frozen k
      rw [HX0.out] at cx
      have hst := HST0.out k
      obtain ⟨b, hb⟩ : ∃ b, F k = b := ⟨_, rfl⟩
      rw [hb] at cx hst
      have hkeep : (b && inC (x1, x2) k) = b → ∀ i, i < N → J k i = J (k + 1) i := by
        intro h i hi
        rw [hst i]
        by_cases e : i = k
        · subst e; rw [if_pos rfl, h, HX0.out, hb]
        · rw [if_neg e]
      have hdrop : inC (x1, x2) k = false → ∀ i, i < N → J (k + 1) i = if i = k then false else J k i := by
        intro h i hi
        rw [hst i, h, Bool.and_false]
      have HKEEP := Lib.hid hkeep
      have HDROP := Lib.hid hdrop
      have HF := Lib.hid hFk
      have HB := Lib.hid hbr
      have hne : w.heap.size ≠ g1 := by omega
      have HNE := Lib.hid hne
      clear hst hb hFk hbr HCL y yz hkeep hdrop hne
      have fin : ∀ (h : inC (x1, x2) k = false), (Flags (wr.setCell ⟨g1, k, none⟩ (.bool false)) (w.heap.size + 1) g1 N (J (k + 1)) N ∧ Box (wr.setCell ⟨g1, k, none⟩ (.bool false)) w.heap.size #[.int .i64 x1, .int .i64 x2] ∧ Below w.heap.size w (wr.setCell ⟨g1, k, none⟩ (.bool false))) := fun h =>
        ⟨HF.out.store k false (HDROP.out h), HBX.out.grown (one_set (one_refl _ _) _ _) HNE.out, HB.out.setCell (p := ⟨g1, k, none⟩) (show w.heap.size ≤ g1 by omega) _⟩
      have FIN := Lib.hid fin
      clear fin
      by_cases h1 : x2 < 1
      · have hz : inC (x1, x2) k = false := by simp [inC]; omega
        obtain ⟨z1, z2, z3⟩ := FIN.out hz
        have Z1 := Lib.hid z1
        have Z2 := Lib.hid z2
        have Z3 := Lib.hid z3
        clear hz z1 z2 z3
        go_wp2
        exact ⟨⟨k + 1, by omega, by go_num, Z1.out, Z2.out, Z3.out⟩, by simp [intOf]; omega⟩
      · have d1 : decide (x2 < 1) = false := by simp; omega
        have d1' : 1 ≤ x2 := by omega
        clear h1
        by_cases h2 : (k : Int) < x1
        · have hz : inC (x1, x2) k = false := by simp [inC]; omega
          obtain ⟨z1, z2, z3⟩ := FIN.out hz
          have Z1 := Lib.hid z1
          have Z2 := Lib.hid z2
          have Z3 := Lib.hid z3
          clear hz z1 z2 z3
          go_wp2
          exact ⟨⟨k + 1, by omega, by go_num, Z1.out, Z2.out, Z3.out⟩, by simp [intOf]; omega⟩
        · have d2 : decide ((k : Int) < x1) = false := by simp; omega
          have d2' : x1 ≤ k := by omega
          clear h2
          by_cases h3 : 0 ≤ x1
          · have d3 : decide (x1 < 0) = false := by simp; omega
            by_cases h4 : x2 ≤ (k : Int) - x1
            · have hz : inC (x1, x2) k = false := by simp [inC]; omega
              obtain ⟨z1, z2, z3⟩ := FIN.out hz
              have Z1 := Lib.hid z1
              have Z2 := Lib.hid z2
              have Z3 := Lib.hid z3
              clear hz z1 z2 z3
              go_wp2
              exact ⟨⟨k + 1, by omega, by go_num, Z1.out, Z2.out, Z3.out⟩, by simp [intOf]; omega⟩
            · have d4 : decide (x2 ≤ (k : Int) - x1) = false := by simp; omega
              have hz : inC (x1, x2) k = true := by simp [inC]; omega
              have hkp := HKEEP.out (by rw [hz, Bool.and_true])
              have HKP := Lib.hid hkp
              clear hz hkp h4
              go_wp2
              exact ⟨⟨k + 1, by omega, by go_num, HF.out.congr HKP.out, HBX.out, HB.out⟩, by simp [intOf]; omega⟩
          · have d3 : decide (0 ≤ x1) = false := by simp; omega
            have d3' : x1 < 0 := by omega
            clear h3
            by_cases h4 : x1 + x2 ≤ (k : Int)
            · have hz : inC (x1, x2) k = false := by simp [inC]; omega
              obtain ⟨z1, z2, z3⟩ := FIN.out hz
              have Z1 := Lib.hid z1
              have Z2 := Lib.hid z2
              have Z3 := Lib.hid z3
              clear hz z1 z2 z3
              go_wp2
              exact ⟨⟨k + 1, by omega, by go_num, Z1.out, Z2.out, Z3.out⟩, by simp [intOf]; omega⟩
            · have d4 : decide (x1 + x2 ≤ (k : Int)) = false := by simp; omega
              have hz : inC (x1, x2) k = true := by simp [inC]; omega
              have hkp := HKEEP.out (by rw [hz, Bool.and_true])
              have HKP := Lib.hid hkp
              clear hz hkp h4
              go_wp2
              exact ⟨⟨k + 1, by omega, by go_num, HF.out.congr HKP.out, HBX.out, HB.out⟩, by simp [intOf]; omega⟩
    · obtain rfl : k = N := by omega
      have HF := Lib.hid hFk
      have HB := Lib.hid hbr
      clear hFk hbr hBx
      go_wp2_with fail
      refine (HCL.out _ _ _ _ HF.out.rd).mono ?_
      intro e w3 h
      obtain ⟨v, rfl, ho, hb3⟩ := h.after HB.out
      obtain ⟨A3, c3, rfl, _, _⟩ := own_form ho
      have HO := Lib.hid ho
      clear h ho
      go_wp2
      go_ret
      exact ⟨_, rfl, HO.out, hb3⟩
end Go.Proofs.Ytebeaghombjooaa

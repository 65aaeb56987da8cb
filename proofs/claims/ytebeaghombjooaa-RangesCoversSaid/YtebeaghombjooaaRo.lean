/- Layer 12: the laws RangesJoin, RangesClip. -/
import Derived.Test.YtebeaghombjooaaRn
set_option linter.unusedVariables false
set_option linter.unusedSimpArgs false
namespace Go.Proofs.Ytebeaghombjooaa
open Go.RowKit

theorem take_len {α : Type} (l : List α) (k m : Nat) (h : k ≤ m) : (l.take k).length ≤ m := Nat.le_trans (List.length_take_le _ _) h

set_option maxRecDepth 100000 in
set_option maxHeartbeats 2000000 in
theorem lawJoin_any (l0 m0 : List Rg) (A A2 : Option Addr) (n c n2 c2 : Nat) (w : World) (hr : Rd w w.heap.size 2 A n (rgCells l0)) (hr2 : Rd w w.heap.size 2 A2 n2 (rgCells m0)) (hc : n ≤ c) (hcm : c ≤ maxLen) (hc2 : n2 ≤ c2) (hcm2 : c2 ≤ maxLen) :
    Calls Try.prog 3 #[.slice A n c, .slice A2 n2 c2] w fun e w' => e = .returned (.bool true) ∧ Below w.heap.size w w' := by
  obtain ⟨N, hN⟩ : ∃ N, N = 65536 := ⟨_, rfl⟩
  have HS1 := Lib.hid (short_any l0 A n c _ w hr hc hcm)
  have HS2 := Lib.hid (short_any m0 A2 n2 c2 _ w hr2 hc2 hcm2)
  obtain ⟨l, hl⟩ : ∃ l, l0.take 12 = l := ⟨_, rfl⟩
  obtain ⟨m, hm⟩ : ∃ m, m0.take 12 = m := ⟨_, rfl⟩
  rw [hl] at HS1
  rw [hm] at HS2
  have HN := Lib.hid hN
  clear hr hr2 hc hc2 hcm hcm2 hl hm hN
  go_enter Try.func3, Try.ntmps3
  go_wp2_with fail
  refine HS1.out.mono ?_
  rintro e w0 ⟨⟨n1, rfl, hn1, _, hR1⟩, rfl⟩
  go_wp2_with fail
  refine HS2.out.mono ?_
  rintro e w0 ⟨⟨n3, rfl, hn3, _, hR3⟩, rfl⟩
  have HR1 := Lib.hid hR1
  have HR3 := Lib.hid hR3
  clear hR1 hR3 HS1 HS2
  go_wp2_with fail
  refine (awake_any _).mono ?_
  rintro e w1 ⟨rfl, hb1⟩
  have HB1 := Lib.hid hb1
  clear hb1
  go_wp2_with fail
  refine (union_any l m A A2 n1 c n3 c2 _ _ N _ (HR1.out.below HB1.out (Nat.le_refl _)) (HR3.out.below HB1.out (Nat.le_refl _)) (by omega) (by omega) HN.out).mono ?_
  intro e w2 h
  obtain ⟨A4, c4, rfl, _, hR4, hb2⟩ := h.open_
  have HB2 := Lib.hid (ext_trans HB1.out hb2)
  have HR4 := Lib.hid hR4
  clear h hb2 hR4 HB1
  go_wp2_with fail
  refine (join_any l m A A2 n1 c n3 c2 _ _ N 0 _ (HR1.out.below HB2.out (Nat.le_refl _)) (HR3.out.below HB2.out (Nat.le_refl _)) (by omega) (by omega) HN.out (by omega)).mono ?_
  intro e w3 h
  obtain ⟨A5, c5, rfl, _, hR5, hb3⟩ := h.open_
  have HB3 := Lib.hid (ext_trans HB2.out hb3)
  have HS := Lib.hid (same_any _ A4 A5 _ c4 c5 _ _ w3 (HR4.out.below hb3 (Nat.le_refl _)) hR5 (Nat.le_trans (closeTo_len _ _) (by rw [HN.out]; omega)))
  clear h hb3 hR5 HR4 HB2
  go_wp2_with fail
  refine HS.out.mono ?_
  rintro e w4 ⟨rfl, hb4⟩
  have HB4 := Lib.hid (ext_trans HB3.out hb4)
  clear hb4 HB3 HS
  go_wp2_with fail
  refine (intersect_any l m A A2 n1 c n3 c2 _ _ N _ (HR1.out.below HB4.out (Nat.le_refl _)) (HR3.out.below HB4.out (Nat.le_refl _)) (by omega) (by omega) HN.out).mono ?_
  intro e w5 h
  obtain ⟨A6, c6, rfl, _, hR6, hb5⟩ := h.open_
  have HB5 := Lib.hid (ext_trans HB4.out hb5)
  have HR6 := Lib.hid hR6
  clear h hb5 hR6 HB4
  go_wp2_with fail
  refine (join_any l m A A2 n1 c n3 c2 _ _ N 1 _ (HR1.out.below HB5.out (Nat.le_refl _)) (HR3.out.below HB5.out (Nat.le_refl _)) (by omega) (by omega) HN.out (by omega)).mono ?_
  intro e w6 h
  obtain ⟨A7, c7, rfl, _, hR7, hb6⟩ := h.open_
  have HB6 := Lib.hid (ext_trans HB5.out hb6)
  have HS := Lib.hid (same_any _ A6 A7 _ c6 c7 _ _ w6 (HR6.out.below hb6 (Nat.le_refl _)) hR7 (Nat.le_trans (closeTo_len _ _) (by rw [HN.out]; omega)))
  clear h hb6 hR7 HR6 HB5
  go_wp2_with fail
  refine HS.out.mono ?_
  rintro e w7 ⟨rfl, hb7⟩
  have HB7 := Lib.hid (ext_trans HB6.out hb7)
  clear hb7 HB6 HS
  go_wp2_with fail
  refine (subtract_any l m A A2 n1 c n3 c2 _ _ N _ (HR1.out.below HB7.out (Nat.le_refl _)) (HR3.out.below HB7.out (Nat.le_refl _)) (by omega) (by omega) HN.out).mono ?_
  intro e w8 h
  obtain ⟨A8, c8, rfl, _, hR8, hb8⟩ := h.open_
  have HB8 := Lib.hid (ext_trans HB7.out hb8)
  have HR8 := Lib.hid hR8
  clear h hb8 hR8 HB7
  go_wp2_with fail
  refine (join_any l m A A2 n1 c n3 c2 _ _ N 2 _ (HR1.out.below HB8.out (Nat.le_refl _)) (HR3.out.below HB8.out (Nat.le_refl _)) (by omega) (by omega) HN.out (by omega)).mono ?_
  intro e w9 h
  obtain ⟨A9, c9, rfl, _, hR9, hb9⟩ := h.open_
  have HB9 := Lib.hid (ext_trans HB8.out hb9)
  have HS := Lib.hid (same_any _ A8 A9 _ c8 c9 _ _ w9 (HR8.out.below hb9 (Nat.le_refl _)) hR9 (Nat.le_trans (closeTo_len _ _) (by rw [HN.out]; omega)))
  clear h hb9 hR9 HR8 HB8
  go_wp2_with fail
  refine HS.out.mono ?_
  rintro e w10 ⟨rfl, hb10⟩
  have hbf := ext_trans HB9.out hb10
  clear hb10 HB9 HS
  go_wp2
  go_ret
  exact ⟨by trivial, hbf⟩

theorem openF_close (f : Nat → Bool) (N i : Nat) (hN : N ≤ 65536) (hi : i < N) : openF (closeTo f N) i = f i := by
  obtain ⟨h1, h2, _⟩ := closeTo_spec f N hN
  rw [openF, setL, if_pos h1.valid, h2]
  have : decide (0 ≤ (i : Int) ∧ (i : Int) < (N : Int)) = true := by simp only [decide_eq_true_eq]; omega
  rw [this, Bool.true_and]; rfl
theorem clip_sub (l : List Rg) (x : Rg) (N : Nat) (hN : N ≤ 65536) : closeTo (joinF 2 (openF (closeTo (clipF x (openF l) N) N)) (openF l) N) N = [] := by
  refine closeTo_none _ _ fun i hi => ?_
  rw [joinF, if_pos hi, openF_close _ _ _ hN hi, clipF, if_pos hi, kindF, if_neg (by decide), if_neg (by decide)]
  cases openF l i <;> simp
set_option maxRecDepth 100000 in
set_option maxHeartbeats 2000000 in
theorem lawClip_any (l0 : List Rg) (A : Option Addr) (n c : Nat) (x1 x2 : Int) (w : World) (hr : Rd w w.heap.size 2 A n (rgCells l0)) (hc : n ≤ c) (hcm : c ≤ maxLen)
    (hx1 : -9223372036854775808 ≤ x1 ∧ x1 ≤ 9223372036854775807) (hx2 : -9223372036854775808 ≤ x2 ∧ x2 ≤ 9223372036854775807) :
    Calls Try.prog 6 #[.slice A n c, .agg #[.int .i64 x1, .int .i64 x2]] w fun e w' => e = .returned (.bool true) ∧ Below w.heap.size w w' := by
  obtain ⟨N, hN⟩ : ∃ N, N = 65536 := ⟨_, rfl⟩
  have hb0 : Below w.heap.size w (w.alloc (.cells #[.int .i64 x1, .int .i64 x2] 37)) := (Below.refl _ _).alloc (Nat.le_refl _) _
  have HS1 := Lib.hid (short_any l0 A n c _ _ (hr.below hb0 (Nat.le_refl _)) hc hcm)
  obtain ⟨l, hl⟩ : ∃ l, l0.take 12 = l := ⟨_, rfl⟩
  rw [hl] at HS1
  have HN := Lib.hid hN
  have HC := Lib.hid (fun (n1 B : Nat) (hn : n1 ≤ 12) (W : World) (h : Rd W B 2 A n1 (rgCells l)) => show Calls Try.prog 22 #[.slice A n1 c, .agg #[.int .i64 x1, .int .i64 x2]] W _ from clip_any l A n1 c B N (x1, x2) W h (by omega) hN hx1 hx2)
  have HRC := Lib.hid (fun (n1 B : Nat) (hn : n1 ≤ 12) (W : World) (h : Rd W B 2 A n1 (rgCells l)) => show Calls Try.prog 23 #[.slice A n1 c, .agg #[.int .i64 x1, .int .i64 x2]] W _ from rclip_any l A n1 c B N (x1, x2) W h (by omega) hN hx1 hx2)
  have hsub := clip_sub l (x1, x2) N (by omega)
  have HB0 := Lib.hid hb0
  have HBX := Lib.hid (Box.alloc_ (w := w) (cs := #[.int .i64 x1, .int .i64 x2]) (e := 37))
  obtain ⟨C, hC⟩ : ∃ C, closeTo (clipF (x1, x2) (openF l) N) N = C := ⟨_, rfl⟩
  have hCl : C.length ≤ 65536 := by rw [← hC]; exact Nat.le_trans (closeTo_len _ _) (by omega)
  have hspec := (closeTo_spec (clipF (x1, x2) (openF l) N) N (by omega)).1
  rw [hC] at HC HRC hsub
  have HSUB := Lib.hid hsub
  have HCL := Lib.hid hCl
  clear hr hc hcm hl hN hsub hb0 hC hspec hx1 hx2 hCl
  go_enter Try.func6, Try.ntmps6
  go_wp2_with fail
  refine HS1.out.mono ?_
  rintro e w0 ⟨⟨n1, rfl, hn1, _, hR1⟩, rfl⟩
  have HR1 := Lib.hid hR1
  clear hR1 HS1
  go_wp2_with fail
  refine (HC.out n1 _ hn1 _ HR1.out).mono ?_
  intro e w2 h
  obtain ⟨A2, c2, rfl, _, hR2, hb2⟩ := h.open_
  have HBX2 := Lib.hid (HBX.out.below hb2)
  have HB2 := Lib.hid (ext_trans HB0.out hb2)
  have HR2 := Lib.hid hR2
  have HR1' := Lib.hid ((HR1.out.below hb2 (by simp)).more (show w.heap.size ≤ w2.heap.size from HB2.out.size))
  clear h hb2 hR2 HBX HB0 HC HR1
  go_wp2_with fail
  refine (awake_any _).mono ?_
  rintro e w3 ⟨rfl, hb3⟩
  obtain ⟨y, yz, yl⟩ := HBX2.out.below hb3
  have y0 : w3.cell? ⟨w.heap.size, 0, none⟩ = some (.int .i64 x1) := y 0
  have y1 : w3.cell? ⟨w.heap.size, 1, none⟩ = some (.int .i64 x2) := y 1
  have HB3 := Lib.hid (ext_trans HB2.out hb3)
  have HR2' := Lib.hid ((HR2.out.below hb3 (Nat.le_refl _)).more hb3.size)
  have HR1 := Lib.hid ((HR1'.out.below hb3 (Nat.le_refl _)).more hb3.size)
  clear hb3 y yz HBX2 HB2 HR2 HR1'
  go_wp2_with fail
  refine (HRC.out n1 _ hn1 _ HR1.out).mono ?_
  intro e w4 h
  obtain ⟨A4, c4, rfl, _, hR4, hb4⟩ := h.open_
  have HB4 := Lib.hid (ext_trans HB3.out hb4)
  have HR2 := Lib.hid ((HR2'.out.below hb4 (Nat.le_refl _)).more hb4.size)
  have HR1' := Lib.hid ((HR1.out.below hb4 (Nat.le_refl _)).more hb4.size)
  have HS := Lib.hid (same_any C A2 A4 _ c2 c4 _ _ w4 HR2.out hR4 (by have := HCL.out; omega))
  clear h hb4 hR4 y0 y1 yl HB3 HR2' HR1 HRC
  go_wp2_with fail
  refine HS.out.mono ?_
  rintro e w5 ⟨rfl, hb5⟩
  have hsb := subtract_any C l A2 A C.length c2 n1 c _ _ N w5 ((HR2.out.below hb5 (Nat.le_refl _)).more hb5.size) ((HR1'.out.below hb5 (Nat.le_refl _)).more hb5.size) (by have := HCL.out; omega) (by omega) HN.out
  rw [HSUB.out] at hsb
  have HSB := Lib.hid hsb
  have HB5 := Lib.hid (ext_trans HB4.out hb5)
  clear hb5 hsb HB4 HR2 HR1' HS
  go_wp2_with fail
  refine HSB.out.mono ?_
  intro e w6 h
  obtain ⟨A6, c6, rfl, _, _, hb6⟩ := h.open_
  have hbf := ext_trans HB5.out hb6
  clear h hb6 HB5 HSB
  go_wp2
  go_ret
  exact ⟨by trivial, hbf⟩
end Go.Proofs.Ytebeaghombjooaa

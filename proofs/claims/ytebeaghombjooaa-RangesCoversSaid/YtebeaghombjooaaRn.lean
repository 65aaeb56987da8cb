/- Layer 12: the statements' helpers (Ints, short) and the chapter's example (Awake). -/
import Derived.Test.YtebeaghombjooaaRm
set_option linter.unusedVariables false
set_option linter.unusedSimpArgs false
namespace Go.Proofs.Ytebeaghombjooaa
open Go.RowKit

theorem ints_any (m : Nat) (l : List Int) (A : Option Addr) (n c B : Nat) (w : World) (hr : Rd w B 1 A n (i64s l)) (hm : m ≤ 1000) (hc : n ≤ c) (hc2 : c ≤ maxLen) :
    Calls Try.prog 17 #[.slice A n c, .int .i64 m] w fun e w' => (∃ k, e = .returned (.slice A k c) ∧ k ≤ m ∧ k ≤ n ∧ Rd w B 1 A k (i64s (l.take m))) ∧ w = w' := by
  have hl := hr.ilen
  have h63 : c ≤ 9223372036854775807 := by simpa only [maxLen] using hc2
  clear hc2
  by_cases h : m < n
  · have hR := hr.take (k := m) (by omega)
    have e : (i64s l).take (m * 1) = i64s (l.take m) := by rw [Nat.mul_one, i64s, ← List.map_take]
    rw [e] at hR
    have HR := Lib.hid hR
    have hmn : (min (n : Int) (m : Int)).toNat = m := by omega
    have HE := Lib.hid hmn
    clear hr hR e hl hmn
    go_enter Try.func17, Try.ntmps17
    go_wp2
    go_ret
    refine ⟨⟨m, ?_, Nat.le_refl _, by omega, HR.out⟩, rfl⟩
    show Ending.returned (.slice A (min (n : Int) (m : Int)).toNat c) = _
    rw [HE.out]
  · have e : l.take m = l := List.take_of_length_le (by omega)
    rw [e]
    have HR := Lib.hid hr
    have d1 : decide ((m : Int) < (n : Int)) = false := by simp; omega
    have d2 : decide (m < n) = false := by simp; omega
    have d3 : n ≤ m := by omega
    have hmn : (min (n : Int) (m : Int)).toNat = n := by omega
    have HE := Lib.hid hmn
    clear hr e hl h hmn
    go_enter Try.func17, Try.ntmps17
    go_wp2
    go_ret
    refine ⟨⟨n, ?_, d3, Nat.le_refl _, HR.out⟩, rfl⟩
    show Ending.returned (.slice A (min (n : Int) (m : Int)).toNat c) = _
    rw [HE.out]
theorem short_any (l : List Rg) (A : Option Addr) (n c B : Nat) (w : World) (hr : Rd w B 2 A n (rgCells l)) (hc : n ≤ c) (hc2 : c ≤ maxLen) :
    Calls Try.prog 9 #[.slice A n c] w fun e w' => (∃ k, e = .returned (.slice A k c) ∧ k ≤ 12 ∧ k ≤ n ∧ Rd w B 2 A k (rgCells (l.take 12))) ∧ w = w' := by
  have hl := hr.glen
  have h63 : c ≤ 9223372036854775807 := by simpa only [maxLen] using hc2
  clear hc2
  have htk : ∀ k, (rgCells l).take (k * 2) = rgCells (l.take k) := by
    intro k
    clear hr hl
    induction l generalizing k with
    | nil => simp [rgCells]
    | cons r t ih =>
      cases k with
      | zero => simp [rgCells]
      | succ k =>
        have := ih k
        rw [show (k + 1) * 2 = k * 2 + 2 by omega]
        simp only [rgCells, List.map_cons, List.flatten_cons, List.take_succ_cons, rgRow] at this ⊢
        simpa using this
  by_cases h : 12 < n
  · have hR := hr.take (k := 12) (by omega)
    rw [htk] at hR
    have HR := Lib.hid hR
    have hmn : (min (n : Int) 12).toNat = 12 := by omega
    have HE := Lib.hid hmn
    clear hr hR htk hl hmn
    go_enter Try.func9, Try.ntmps9
    go_wp2
    go_ret
    refine ⟨⟨12, ?_, Nat.le_refl _, by omega, HR.out⟩, rfl⟩
    show Ending.returned (.slice A (min (n : Int) 12).toNat c) = _
    rw [HE.out]
  · have e : l.take 12 = l := List.take_of_length_le (by omega)
    rw [e]
    have HR := Lib.hid hr
    have d1 : decide ((12 : Int) < (n : Int)) = false := by simp; omega
    have d2 : decide (12 < n) = false := by simp; omega
    have d3 : n ≤ 12 := by omega
    have hmn : (min (n : Int) 12).toNat = n := by omega
    have HE := Lib.hid hmn
    clear hr e hl h htk hmn
    go_enter Try.func9, Try.ntmps9
    go_wp2
    go_ret
    refine ⟨⟨n, ?_, d3, Nat.le_refl _, HR.out⟩, rfl⟩
    show Ending.returned (.slice A (min (n : Int) 12).toNat c) = _
    rw [HE.out]

/-- A returned list, opened. -/
theorem RetR.open_ {w w' : World} {l : List Rg} {e : Ending} (h : RetR w l e w') : ∃ A c, e = .returned (.slice A l.length c) ∧ l.length ≤ c ∧ Rd w' w'.heap.size 2 A l.length (rgCells l) ∧ Below w.heap.size w w' := by
  obtain ⟨v, rfl, ho, hb⟩ := h
  obtain ⟨A, c, rfl, hc, hR⟩ := own_form ho
  exact ⟨A, c, rfl, hc, hR, hb⟩
theorem awake1 (N : Nat) (hN : N = 65536) : closeTo (ofF [5, 3, 4, 9, -1]) N = [(3, 3), (9, 1)] := by
  refine close_eq _ (by decide) _ N hN fun i hi => ?_
  rw [Bool.eq_iff_iff]
  simp only [inL, inR, ofF, List.any_cons, List.any_nil, Bool.or_false, Bool.or_eq_true, decide_eq_true_eq, beq_iff_eq]
  omega
theorem awake2 (N : Nat) (hN : N = 65536) : closeTo (joinF 2 (openF [(0, 10)]) (openF [(3, 2)]) N) N = [(0, 3), (5, 5)] := by
  refine close_eq _ (by decide) _ N hN fun i hi => ?_
  rw [joinF, if_pos hi, openF_one 0 10 (by decide), openF_one 3 2 (by decide), kindF, if_neg (by decide), if_neg (by decide), Bool.eq_iff_iff]
  simp only [inL, inR, List.any_cons, List.any_nil, Bool.or_false, Bool.or_eq_true, Bool.and_eq_true, Bool.not_eq_true', decide_eq_true_eq, decide_eq_false_iff_not]
  omega
set_option maxRecDepth 100000 in
set_option maxHeartbeats 1000000 in
theorem awake_any (w : World) : Calls Try.prog 10 #[] w fun e w' => e = .returned (.bool true) ∧ Below w.heap.size w w' := by
  obtain ⟨N, hN⟩ : ∃ N, N = 65536 := ⟨_, rfl⟩
  have hof := fun (A : Option Addr) (c B : Nat) (W : World) (h : Rd W B 1 A 5 (i64s [5, 3, 4, 9, -1])) => of_any [5, 3, 4, 9, -1] A 5 c B N W h (by omega) hN (by intro x hx; simp at hx; omega)
  have hsb := fun (A A2 : Option Addr) (c c2 B B2 : Nat) (W : World) (h : Rd W B 2 A 1 (rgCells [(0, 10)])) (h2 : Rd W B2 2 A2 1 (rgCells [(3, 2)])) => subtract_any [(0, 10)] [(3, 2)] A A2 1 c 1 c2 B B2 N W h h2 (by omega) (by omega) hN
  simp only [awake1 N hN] at hof
  simp only [awake2 N hN] at hsb
  have HOF := Lib.hid hof
  have HSB := Lib.hid hsb
  clear hof hsb
  have hb0 : Below w.heap.size w (w.alloc (.cells #[.int .i64 5, .int .i64 3, .int .i64 4, .int .i64 9, .int .i64 (-1)] 3)) := (Below.refl _ _).alloc (Nat.le_refl _) _
  have HB0 := Lib.hid hb0
  clear hb0 hN
  go_enter Try.func10, Try.ntmps10
  go_wp2_with fail
  refine (HOF.out _ _ _ _ (Rd.lit (size := 1) (n := 5) rfl (Nat.lt_succ_self _))).mono ?_
  intro e w1 h
  obtain ⟨A1, c1, rfl, hc1, hR1, hb1⟩ := h.open_
  have hbw := ext_trans HB0.out hb1
  have HR1 := Lib.hid hR1
  have HBW := Lib.hid hbw
  have hb2 : Below w1.heap.size w1 ((w1.alloc (.cells #[.int .i64 0, .int .i64 10] 37)).alloc (.cells #[.int .i64 3, .int .i64 2] 37)) := ((Below.refl _ _).alloc (Nat.le_refl _) _).alloc (by simp) _
  have HB2 := Lib.hid hb2
  clear h hb1 HOF HB0 hR1 hbw hb2
  go_wp2_with fail
  refine (HSB.out _ _ _ _ _ _ _ ((Rd.lit (w := w1) (size := 2) (n := 1) (cs := #[.int .i64 0, .int .i64 10]) (fz := (0, 0)) rfl (Nat.lt_succ_self _)).alloc' _ (by simp)) (Rd.lit2 (size := 2) (n := 1) (cs := #[.int .i64 3, .int .i64 2]) rfl (Nat.lt_succ_self _))).mono ?_
  intro e w2 h
  obtain ⟨A2, c2, rfl, hc2, hR2, hb2⟩ := h.open_
  have hbb := ext_trans HB2.out hb2
  have HR1' := Lib.hid ((HR1.out.below hbb (Nat.le_refl _)).more hbb.size)
  have HR2 := Lib.hid hR2
  have HBW2 := Lib.hid (ext_trans HBW.out hbb)
  clear h hb2 HSB HB2 hR2 hbb HR1 HBW
  have hb3 : Below w2.heap.size w2 (w2.alloc (.cells #[.int .i64 3, .int .i64 3, .int .i64 9, .int .i64 1] 37)) := (Below.refl _ _).alloc (Nat.le_refl _) _
  have HB3 := Lib.hid hb3
  clear hb3
  go_wp2_with fail
  refine (same_any [(3, 3), (9, 1)] _ _ 2 _ _ _ _ _ (HR1'.out.alloc' _ (Nat.le_refl _)) (Rd.lit (w := w2) (size := 2) (n := 2) (cs := #[.int .i64 3, .int .i64 3, .int .i64 9, .int .i64 1]) (fz := (0, 0)) rfl (Nat.lt_succ_self _)) (by omega)).mono ?_
  rintro e w3 ⟨rfl, hb3⟩
  have hbb := ext_trans HB3.out hb3
  have HR1 := Lib.hid ((HR1'.out.below hbb (Nat.le_refl _)).more hbb.size)
  have HR2' := Lib.hid ((HR2.out.below hbb (Nat.le_refl _)).more hbb.size)
  have HBW3 := Lib.hid (ext_trans HBW2.out hbb)
  clear hb3 HB3 hbb HR1' HR2 HBW2
  have hb4 : Below w3.heap.size w3 (w3.alloc (.cells #[.int .i64 0, .int .i64 3, .int .i64 5, .int .i64 5] 37)) := (Below.refl _ _).alloc (Nat.le_refl _) _
  have HB4 := Lib.hid hb4
  clear hb4
  go_wp2_with fail
  refine (same_any [(0, 3), (5, 5)] _ _ 2 _ _ _ _ _ (HR2'.out.alloc' _ (Nat.le_refl _)) (Rd.lit (w := w3) (size := 2) (n := 2) (cs := #[.int .i64 0, .int .i64 3, .int .i64 5, .int .i64 5]) (fz := (0, 0)) rfl (Nat.lt_succ_self _)) (by omega)).mono ?_
  rintro e w4 ⟨rfl, hb4⟩
  have hbb := ext_trans HB4.out hb4
  have HR1' := Lib.hid ((HR1.out.below hbb (Nat.le_refl _)).more hbb.size)
  have HBW4 := Lib.hid (ext_trans HBW3.out hbb)
  clear hb4 HB4 hbb HR1 HR2' HBW3
  go_wp2_with fail
  refine (valid_any [(3, 3), (9, 1)] _ 2 _ _ _ HR1'.out (by omega) true (by decide)).mono ?_
  rintro e w5 ⟨rfl, hb5⟩
  go_wp2
  go_ret
  exact ⟨rfl, ext_trans HBW4.out hb5⟩
end Go.Proofs.Ytebeaghombjooaa

/- Layer 12: the law RangesOf. -/
import Derived.Test.YtebeaghombjooaaRq
set_option linter.unusedVariables false
set_option linter.unusedSimpArgs false
namespace Go.Proofs.Ytebeaghombjooaa
open Go.RowKit

theorem in_close (f : Nat → Bool) (N : Nat) (hN : N ≤ 65536) (a : Int) : inL (setL (closeTo f N)) a = (decide (0 ≤ a ∧ a < (N : Int)) && f a.toNat) := by
  rw [set_close f N hN, (closeTo_spec f N hN).2.1]
/-- The flag that the law reckons by itself. -/
def hasF (l : List Int) (a : Int) (k : Nat) : Bool := (l.take k).any fun x => x == a && decide (0 ≤ a ∧ a < 65536)
theorem hasF_step (l : List Int) (a : Int) (k : Nat) (hk : k < l.length) : hasF l a (k + 1) = (hasF l a k || (l[k] == a && decide (0 ≤ a ∧ a < 65536))) := by
  rw [hasF, List.take_succ_eq_append_getElem hk, List.any_append]; simp [hasF]
theorem hasF_all (l : List Int) (a : Int) (N : Nat) (hN : N = 65536) : inL (setL (closeTo (ofF l) N)) a = hasF l a l.length := by
  rw [in_close _ N (by omega), hasF, List.take_length, Bool.eq_iff_iff, List.any_eq_true]
  simp only [Bool.and_eq_true, decide_eq_true_eq, ofF, List.any_eq_true, beq_iff_eq]
  constructor
  · rintro ⟨h, x, hx, he⟩
    exact ⟨x, hx, by omega, by omega⟩
  · rintro ⟨x, hx, he, h⟩
    exact ⟨by omega, x, hx, by omega⟩

set_option maxRecDepth 100000 in
set_option maxHeartbeats 4000000 in
theorem lawOf_any (x0 : List Int) (A : Option Addr) (n c : Nat) (a : Int) (w : World) (hr : Rd w w.heap.size 1 A n (i64s x0)) (hc : n ≤ c) (hcm : c ≤ maxLen) (hx : ∀ x ∈ x0, -9223372036854775808 ≤ x ∧ x ≤ 9223372036854775807) :
    Calls Try.prog 5 #[.slice A n c, .int .i64 a] w fun e w' => e = .returned (.bool true) ∧ Below w.heap.size w w' := by
  obtain ⟨N, hN⟩ : ∃ N, N = 65536 := ⟨_, rfl⟩
  have HI1 := Lib.hid (ints_any 40 x0 A n c _ w hr (by omega) hc hcm)
  have hx' : ∀ x ∈ x0.take 40, -9223372036854775808 ≤ x ∧ x ≤ 9223372036854775807 := fun x hxx => hx x (List.mem_of_mem_take hxx)
  have hxl : (x0.take 40).length ≤ 40 := List.length_take_le _ _
  obtain ⟨l, hl⟩ : ∃ l, x0.take 40 = l := ⟨_, rfl⟩
  rw [hl] at HI1 hx' hxl
  have hof := fun (k : Nat) (hk : k ≤ 40) (B : Nat) (W : World) (h : Rd W B 1 A k (i64s l)) => of_any l A k c B N W h (by omega) hN hx'
  have hrof := fun (k : Nat) (hk : k ≤ 40) (B : Nat) (W : World) (h : Rd W B 1 A k (i64s l)) => rof_any l A k c B N W h (by omega) hN
  have hin := fun y => hasF_all l y N hN
  have hv := (closeTo_spec (ofF l) N (by omega)).1.valid
  have hcl : (closeTo (ofF l) N).length ≤ 65536 := Nat.le_trans (closeTo_len _ _) (by omega)
  obtain ⟨C, hC⟩ : ∃ C, closeTo (ofF l) N = C := ⟨_, rfl⟩
  simp only [hC] at hof hrof hin hv hcl
  have hmem : ∀ y ∈ l, 0 ≤ y → y < 65536 → inL (setL C) y = true := fun y hy h1 h2 => by
    rw [hin y, hasF, List.take_length, List.any_eq_true]
    exact ⟨y, hy, by simp; omega⟩
  have HOF := Lib.hid hof
  have HROF := Lib.hid hrof
  have HIN := Lib.hid hin
  have HV := Lib.hid hv
  have HMEM := Lib.hid hmem
  clear hr hc hcm hx hx' hl hof hrof hin hv hC hN hmem
  go_enter Try.func5, Try.ntmps5
  go_wp2_with fail
  refine HI1.out.mono ?_
  rintro e w0 ⟨⟨k1, rfl, hk1, _, hR1⟩, rfl⟩
  have hln : l.length = k1 := hR1.ilen
  have HLN := Lib.hid hln
  go_wp2_with fail
  refine (HOF.out k1 hk1 _ _ hR1).mono ?_
  intro e w1 h
  obtain ⟨Aa, ca, rfl, _, hRa, hb1⟩ := h.open_
  have HR1 := Lib.hid hR1
  have HRa := Lib.hid hRa
  have HB := Lib.hid hb1
  clear h hRa hb1 hR1 HI1 HOF hln
  go_wp2_with fail
  go_loopw [6, 7] (fun f i wr => ∃ k : Nat, k ≤ k1 ∧ i = .int .i64 k ∧ f = .bool (hasF l a k) ∧ Below w1.heap.size w1 wr) (fun _ i _ => k1 - (intOf i).toNat)
  case atStart => exact ⟨0, by omega, rfl, rfl, Below.refl _ _⟩
  case round =>
    obtain ⟨k, hk, rfl, rfl, hbr⟩ := hrel
    have HBR := Lib.hid hbr
    have HBW := Lib.hid (ext_trans HB.out hbr)
    have HRA := Lib.hid ((HRa.out.below hbr (Nat.le_refl _)).more hbr.size)
    clear hbr
    by_cases hlt : k < k1
    · obtain ⟨b, off, rfl, hbl, hk', c0⟩ := int_cells (HR1.out.below HBW.out (Nat.le_refl _)) k hlt
      have hst := hasF_step l a k hk'
      have hme := HMEM.out l[k] (List.getElem_mem _)
      obtain ⟨x, hx⟩ : ∃ x, l[k] = x := ⟨_, rfl⟩
      rw [hx] at c0 hst hme
      have HST := Lib.hid hst
      have HME := Lib.hid hme
      clear hx hst hme
      obtain ⟨f, hf⟩ : ∃ f, hasF l a k = f := ⟨_, rfl⟩
      rw [hf] at HST ⊢
      clear hf
      have hflag : ∃ g, (f || (x == a && decide (0 ≤ a ∧ a < 65536))) = g := ⟨_, rfl⟩
      obtain ⟨g, hg⟩ := hflag
      rw [hg] at HST
      have hcase : (f = true ∧ g = true) ∨ (f = false ∧ (x == a) = false ∧ g = false) ∨ (f = false ∧ (x == a) = true ∧ decide (0 ≤ a) = false ∧ g = false) ∨ (f = false ∧ (x == a) = true ∧ decide (0 ≤ a) = true ∧ decide (a < 65536) = g) := by
        cases f
        · right
          rcases hxa : (x == a) with _ | _
          · left; exact ⟨rfl, rfl, by rw [← hg, hxa]; rfl⟩
          · right
            by_cases h0 : 0 ≤ a
            · right; refine ⟨rfl, rfl, by simpa using h0, ?_⟩
              rw [← hg, hxa, Bool.false_or, Bool.true_and, decide_eq_decide]; omega
            · left; refine ⟨rfl, rfl, by simpa using h0, ?_⟩
              rw [← hg, hxa, Bool.false_or, Bool.true_and]; simp; omega
        · left; exact ⟨rfl, by rw [← hg]; rfl⟩
      clear hg
      rcases hcase with ⟨rfl, rfl⟩ | ⟨rfl, e1, rfl⟩ | ⟨rfl, e1, e2, rfl⟩ | ⟨rfl, e1, e2, e3⟩
      all_goals
        by_cases h1 : 0 ≤ x
        · by_cases h2 : x < 65536
          · have HH := Lib.hid (fun (W : World) (h : Rd W W.heap.size 2 Aa C.length (rgCells C)) => has_any C Aa _ ca _ x W h (by omega) true (HME.out h1 h2))
            go_wp2_with fail
            refine (HH.out _ HRA.out).mono ?_
            rintro e w2 ⟨rfl, hb2⟩
            go_wp2
            exact ⟨⟨k + 1, by omega, by go_num, by rw [HST.out], ext_trans HBR.out hb2⟩, by simp [intOf]; omega⟩
          · have d2 : decide (x < 65536) = false := by simp; omega
            clear h2
            go_wp2
            exact ⟨⟨k + 1, by omega, by go_num, by rw [HST.out], HBR.out⟩, by simp [intOf]; omega⟩
        · have d1 : decide (0 ≤ x) = false := by simp; omega
          clear h1
          go_wp2
          exact ⟨⟨k + 1, by omega, by go_num, by rw [HST.out], HBR.out⟩, by simp [intOf]; omega⟩
    · obtain rfl : k = k1 := by omega
      have hf : hasF l a k = hasF l a l.length := by rw [HLN.out]
      obtain ⟨f, hff⟩ : ∃ f, hasF l a k = f := ⟨_, rfl⟩
      rw [hff] at hf ⊢
      have HIN2 := Lib.hid (show inL (setL C) a = f by rw [HIN.out a]; exact hf.symm)
      have e1 : (f == f) = true := by simp
      clear hf hff
      go_wp2_with fail
      refine (awake_any _).mono ?_
      rintro e w2 ⟨rfl, hb2⟩
      have HB2 := Lib.hid (ext_trans HBW.out hb2)
      have HRA2 := Lib.hid ((HRA.out.below hb2 (Nat.le_refl _)).more hb2.size)
      clear hb2 HRA HBR HBW
      go_wp2_with fail
      refine (valid_any C Aa _ ca _ _ HRA2.out (by omega) true HV.out).mono ?_
      rintro e w3 ⟨rfl, hb3⟩
      have HB3 := Lib.hid (ext_trans HB2.out hb3)
      have HRA3 := Lib.hid ((HRA2.out.below hb3 (Nat.le_refl _)).more hb3.size)
      clear hb3 HRA2 HB2
      go_wp2_with fail
      refine (HROF.out k hk1 _ _ (HR1.out.below HB3.out (Nat.le_refl _))).mono ?_
      intro e w4 h
      obtain ⟨A4, c4, rfl, _, hR4, hb4⟩ := h.open_
      have HB4 := Lib.hid (ext_trans HB3.out hb4)
      have HRA4 := Lib.hid ((HRA3.out.below hb4 (Nat.le_refl _)).more hb4.size)
      have HS := Lib.hid (same_any C Aa A4 _ ca c4 _ _ w4 HRA4.out hR4 (by omega))
      clear h hb4 hR4 HRA3 HB3
      go_wp2_with fail
      refine HS.out.mono ?_
      rintro e w5 ⟨rfl, hb5⟩
      have HB5 := Lib.hid (ext_trans HB4.out hb5)
      have HH := Lib.hid (has_any C Aa _ ca _ a w5 ((HRA4.out.below hb5 (Nat.le_refl _)).more hb5.size) (by omega) f HIN2.out)
      clear hb5 HRA4 HB4 HS
      go_wp2_with fail
      refine HH.out.mono ?_
      rintro e w6 ⟨rfl, hb6⟩
      have hbf := ext_trans HB5.out hb6
      clear hb6 HB5 HH
      go_wp2
      go_ret
      exact ⟨by trivial, hbf⟩
end Go.Proofs.Ytebeaghombjooaa

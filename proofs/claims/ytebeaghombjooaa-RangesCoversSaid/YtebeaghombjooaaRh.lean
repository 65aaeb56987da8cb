/- Layer 12: contracts of the reference's Of, Join, Clip. -/
import Derived.Test.YtebeaghombjooaaRg
set_option linter.unusedVariables false
set_option linter.unusedSimpArgs false
namespace Go.Proofs.Ytebeaghombjooaa
open Go.RowKit

abbrev i64s (xs : List Int) : List Value := xs.map (Value.int .i64)
theorem i64s_get (xs : List Int) (k : Nat) (h : k < xs.length) : (i64s xs)[k]? = some (.int .i64 xs[k]) := by simp [i64s, List.getElem?_eq_getElem h]
theorem int_cells {w : World} {B n : Nat} {A : Option Addr} {xs : List Int} (h : Rd w B 1 A n (i64s xs)) (k : Nat) (hk : k < n) :
    ∃ b off, A = some ⟨b, off, none⟩ ∧ b < B ∧ ∃ hk' : k < xs.length, w.cell? ⟨b, off + k, none⟩ = some (.int .i64 xs[k]) := by
  have hl : xs.length = n := by have := h.1; simpa using this
  obtain ⟨b, off, e, hb, hc⟩ := h.2 (by omega)
  exact ⟨b, off, e, hb, by omega, hc _ _ (i64s_get xs k (by omega))⟩
theorem Rd.ilen {w : World} {B n : Nat} {A : Option Addr} {xs : List Int} (h : Rd w B 1 A n (i64s xs)) : xs.length = n := by have := h.1; simpa using this
def ofF (l : List Int) : Nat → Bool := fun i => l.any fun x => x == (i : Int)
theorem ofF_step (l : List Int) (k : Nat) (hk : k < l.length) (i : Nat) : ofF (l.take (k + 1)) i = (ofF (l.take k) i || l[k] == (i : Int)) := by
  rw [ofF, List.take_succ_eq_append_getElem hk, List.any_append]; simp [ofF]
/-- Flags in a result: as a list to close. -/
theorem RetR.after {w w1 w' : World} {l : List Rg} {e : Ending} (hb : Below w.heap.size w w1) (h : RetR w1 l e w') : RetR w l e w' := by
  obtain ⟨v, he, ho, hb2⟩ := h
  exact ⟨v, he, own_mono ho hb.size, ext_trans hb hb2⟩

set_option maxRecDepth 10000 in
set_option maxHeartbeats 4000000 in
theorem rof_any (l : List Int) (A : Option Addr) (n c B N : Nat) (w : World) (hr : Rd w B 1 A n (i64s l)) (hn : n ≤ 4611686018427387904) (hN : N = 65536) :
    Calls Try.prog 21 #[.slice A n c] w (RetR w (closeTo (ofF l) N)) := by
  have hr := hr.fits (by decide)
  have hl := hr.ilen
  have HR := Lib.hid hr
  have HL := Lib.hid hl
  have HN := Lib.hid hN
  have HCL := Lib.hid (fun (W : World) (g c : Nat) (h : Rd W W.heap.size 1 (some ⟨g, 0, none⟩) N (flagCells (ofF l) N)) => close_any (ofF l) (some ⟨g, 0, none⟩) c _ N W h (by omega) (by omega))
  obtain ⟨i0, hi, hz0, hz1, hz2⟩ := info_parts boolInfo
  have HI2 := Lib.hid hz2
  clear hr hl hN hz2
  go_enter Try.func21, Try.ntmps21
  go_wp2_with (at_make; refine wpList_make_full _ rfl _ _ 46 rfl w.heap.size 4 i0 (.bool false) 1 Try.underlying46 hi hz0 hz1 .i64 .i64 _ _ N rfl rfl (by rw [HN.out]; rfl) (by rw [HN.out]; rfl) (by rw [HI2.out, HN.out]; decide) (by rw [HN.out]; decide) (Nat.le_refl _) ?_; intro w1 hown1 hg1)
  rw [flag_made] at hown1
  have hF1 : Flags w1 w.heap.size w.heap.size N (ofF (l.take 0)) N := hown1
  have hb1 : Below w.heap.size w w1 := (Below.refl _ w).grown hg1 (Nat.le_refl _) (fun k hk => by cases hk)
  clear hown1 hg1 hi hz0 hz1 HI2
  go_wp2_with fail
  go_loopw [4] (fun i wr => ∃ (k : Nat), k ≤ n ∧ i = .int .i64 k ∧ Flags wr w.heap.size w.heap.size N (ofF (l.take k)) N ∧ Below w.heap.size w wr) (fun i _ => n - (intOf i).toNat)
  case atStart => exact ⟨0, by omega, rfl, hF1, hb1⟩
  case round =>
    obtain ⟨k, hk, rfl, hF, hbw⟩ := hrel
    by_cases hlt : k < n
    · obtain ⟨b, off, rfl, hbl, hk', c0⟩ := int_cells (HR.out.below hbw (Nat.le_refl _)) k hlt
      have hst := fun i : Nat => ofF_step l k hk' i
      obtain ⟨x, hx⟩ : ∃ x, l[k] = x := ⟨_, rfl⟩
      rw [hx] at c0
      simp only [hx] at hst
      have HST := Lib.hid hst
      have HF := Lib.hid hF
      have HB := Lib.hid hbw
      clear hst hx hF hF1 hb1 hbw HCL
      by_cases h1 : 0 ≤ x
      · obtain ⟨q, rfl⟩ : ∃ q : Nat, x = q := ⟨x.toNat, by omega⟩
        by_cases h2 : q < N
        · have hc := HF.out.cell q h2
          obtain ⟨y, hy⟩ : ∃ y, ofF (l.take k) q = y := ⟨_, rfl⟩
          rw [hy] at hc
          have hf := HF.out.frozen q
          clear hy
          go_wp2
          refine ⟨⟨k + 1, by omega, by go_num, HF.out.store q true fun i hi => ?_, HB.out.setCell (p := ⟨w.heap.size, q, none⟩) (Nat.le_refl _) _⟩, by simp [intOf]; omega⟩
          rw [HST.out i]
          by_cases e : i = q
          · subst e; simp
          · have : ((q : Int) == (i : Int)) = false := by simp; omega
            rw [this, Bool.or_false, if_neg e]
        · have d2 : decide ((q : Int) < (N : Int)) = false := by simp only [decide_eq_false_iff_not]; omega
          have d2' : decide (q < N) = false := by simp only [decide_eq_false_iff_not]; omega
          have hno : ∀ i, i < N → ofF (l.take k) i = ofF (l.take (k + 1)) i := by
            intro i hi
            rw [HST.out i]
            have : ((q : Int) == (i : Int)) = false := by simp; omega
            rw [this, Bool.or_false]
          have HNO := Lib.hid hno
          clear h2 hno
          go_wp2
          exact ⟨⟨k + 1, by omega, by go_num, HF.out.congr HNO.out, HB.out⟩, by simp [intOf]; omega⟩
      · have d1 : decide (0 ≤ x) = false := by simp; omega
        have hno : ∀ i, i < N → ofF (l.take k) i = ofF (l.take (k + 1)) i := by
          intro i hi
          rw [HST.out i]
          have : (x == (i : Int)) = false := by simp; omega
          rw [this, Bool.or_false]
        have HNO := Lib.hid hno
        clear h1 hno
        go_wp2
        exact ⟨⟨k + 1, by omega, by go_num, HF.out.congr HNO.out, HB.out⟩, by simp [intOf]; omega⟩
    · obtain rfl : k = n := by omega
      rw [List.take_of_length_le (by rw [HL.out]; omega)] at hF
      have HF := Lib.hid hF
      have HB := Lib.hid hbw
      clear hF hbw hF1 hb1
      go_wp2_with fail
      refine (HCL.out _ _ _ HF.out.rd).mono ?_
      intro e w2 h
      obtain ⟨v, rfl, ho, hb2⟩ := h.after HB.out
      obtain ⟨A2, c2, rfl, _, _⟩ := own_form ho
      have HO := Lib.hid ho
      clear h ho
      go_wp2
      go_ret
      exact ⟨_, rfl, HO.out, hb2⟩

def kindF : Int → Bool → Bool → Bool := fun k x y => if k = 0 then x || y else if k = 1 then x && y else x && !y
def joinF (k : Int) (f g : Nat → Bool) (n : Nat) : Nat → Bool := fun i => if i < n then kindF k (f i) (g i) else f i
theorem joinF_step (k : Int) (f g : Nat → Bool) (n : Nat) (b : Bool) (h : kindF k (f n) (g n) = b) (i : Nat) : joinF k f g (n + 1) i = if i = n then b else joinF k f g n i := by
  unfold joinF
  by_cases e : i = n
  · subst e; rw [if_pos (by omega), if_pos rfl, h]
  · rw [if_neg e]
    by_cases h2 : i < n
    · rw [if_pos (by omega), if_pos h2]
    · rw [if_neg (by omega), if_neg h2]
set_option maxRecDepth 10000 in
set_option maxHeartbeats 4000000 in
theorem join_any (l m : List Rg) (A A2 : Option Addr) (n c n2 c2 B B2 N : Nat) (kd : Int) (w : World) (hr : Rd w B 2 A n (rgCells l)) (hr2 : Rd w B2 2 A2 n2 (rgCells m)) (hn : n ≤ 4611686018427387904) (hn2 : n2 ≤ 4611686018427387904) (hN : N = 65536) (hkd : kd = 0 ∨ kd = 1 ∨ kd = 2) :
    Calls Try.prog 13 #[.slice A n c, .slice A2 n2 c2, .int .i64 kd] w (RetR w (closeTo (joinF kd (openF l) (openF m) N) N)) := by
  have hr := hr.fits (by decide)
  have hr2 := hr2.fits (by decide)
  have HO1 := Lib.hid (open_any l A n c _ N w hr hn hN)
  have HO2 := Lib.hid (fun (W : World) (h : Below w.heap.size w W) => open_any m A2 n2 c2 w.heap.size N W (hr2.below h (Nat.le_refl _)) hn2 hN)
  have HCL := Lib.hid (fun (f : Nat → Bool) (W : World) (g c : Nat) (h : Rd W W.heap.size 1 (some ⟨g, 0, none⟩) N (flagCells f N)) => close_any f (some ⟨g, 0, none⟩) c _ N W h (by omega) (by omega))
  have HNN := Lib.hid (show N ≤ 65536 by omega)
  obtain ⟨F, hF⟩ : ∃ F, openF l = F := ⟨_, rfl⟩
  obtain ⟨G, hG⟩ : ∃ G, openF m = G := ⟨_, rfl⟩
  rw [hF] at HO1 ⊢
  simp only [hG] at HO2 ⊢
  obtain ⟨J, hJ⟩ : ∃ J, joinF kd F G = J := ⟨_, rfl⟩
  have hst0 : ∀ (k : Nat) (b : Bool), kindF kd (F k) (G k) = b → ∀ i, J (k + 1) i = if i = k then b else J k i := fun k b h i => by rw [← hJ]; exact joinF_step kd F G k b h i
  have hx0 : ∀ k, J k k = F k := fun k => by rw [← hJ]; exact if_neg (by omega)
  have hj0 : ∀ i, F i = J 0 i := fun i => by rw [← hJ]; exact (if_neg (by omega)).symm
  have HST0 := Lib.hid hst0
  have HX0 := Lib.hid hx0
  have HJ0 := Lib.hid hj0
  rw [hJ]
  clear hr hr2 hN hF hG hJ hst0 hx0 hj0
  rcases hkd with rfl | rfl | rfl
  all_goals
    go_enter Try.func13, Try.ntmps13
    go_wp2_with fail
    refine HO1.out.mono ?_
    rintro e w1 ⟨⟨g1, rfl, hf1⟩, hb1⟩
    go_wp2_with fail
    refine (HO2.out _ hb1).mono ?_
    rintro e w2 ⟨⟨g2, rfl, hf2⟩, hb2⟩
    have hf1' := hf1.below hb2
    have hbw := ext_trans hb1 hb2
    have hg1 := hf1.base
    have hg2 := hf2.base
    have hs1 := hb1.size
    clear hf1 HO1 HO2 hb1 hb2
    go_wp2_with fail
    go_loopw [9] (fun i wr => ∃ (k : Nat), k ≤ N ∧ i = .int .i64 k ∧ Flags wr w.heap.size g1 N (J k) N ∧ Flags wr w1.heap.size g2 N G N ∧ Below w.heap.size w wr) (fun i _ => N - (intOf i).toNat)
    case atStart => exact ⟨0, by omega, rfl, hf1'.congr (fun i _ => HJ0.out i), hf2, hbw⟩
    case round =>
      obtain ⟨k, hk, rfl, hFk, hGk, hbr⟩ := hrel
      clear hf1' hf2 hbw
      have hNN := HNN.out
      by_cases hlt : k < N
      · have cx := hFk.cell k hlt
        have cy := hGk.cell k hlt
        have hfz := hFk.frozen k
        rw [HX0.out] at cx
        have hst := HST0.out k
        obtain ⟨x, hx⟩ : ∃ x, F k = x := ⟨_, rfl⟩
        obtain ⟨y, hy⟩ : ∃ y, G k = y := ⟨_, rfl⟩
        rw [hx] at cx
        rw [hy] at cy
        rw [hx, hy] at hst
        have HST := Lib.hid hst
        have HF := Lib.hid hFk
        have HG := Lib.hid hGk
        have HB := Lib.hid hbr
        clear hst hx hy hFk hGk hbr HCL
        cases x <;> cases y <;>
        · go_wp2
          refine ⟨⟨k + 1, by omega, by go_num, HF.out.store k _ fun i hi => HST.out _ (by rfl) i, ?_, HB.out.setCell (p := ⟨g1, k, none⟩) (show w.heap.size ≤ g1 from hg1.1) _⟩, by simp [intOf]; omega⟩
          exact ownsRow_setCell_below HG.out (show g1 < w1.heap.size by omega) _
      · obtain rfl : k = N := by omega
        have HF := Lib.hid hFk
        have HB := Lib.hid hbr
        clear hFk hGk hbr
        go_wp2_with fail
        refine (HCL.out _ _ _ _ HF.out.rd).mono ?_
        intro e w3 h
        obtain ⟨v, rfl, ho, hb3⟩ := h.after HB.out
        obtain ⟨A3, c3, rfl, _, _⟩ := own_form ho
        have HO := Lib.hid ho
        clear h ho
        go_wp2
        go_ret
        exact ⟨_, rfl, HO.out, hb3⟩
end Go.Proofs.Ytebeaghombjooaa

/- RunsSlice (under way). -/
import Derived.Test.YtjbbkhoonenfjaaRunE
import Derived.Test.YtjbbkhoonenfjaaRunB
set_option linter.unusedVariables false
set_option linter.unusedSimpArgs false
namespace Go.Proofs.Ytjbbkhoonenfjaa
open Go.RowKit

set_option maxRecDepth 100000 in
set_option maxHeartbeats 1000000 in
theorem slice_own (rs : List (Rn Int)) (A : Option Addr) (n c B : Nat) (f k : Int) (w : World) (hr : Rd w B 2 A n (rnCells rs)) (hn : n ≤ 100000) (hb : tot rs ≤ 1000000) (hf1 : -9223372036854775808 ≤ f) (hf2 : f ≤ 9223372036854775807) (hc1 : -9223372036854775808 ≤ k) (hc2 : k ≤ 9223372036854775807) :
    Calls Try.prog 26 #[lv A n c, .int .i64 f, .int .i64 k] w (RetO w (partL rs (clipL f k (tot rs)).1 (clipL f k (tot rs)).2)) := by
  have hr := hr.fits (by decide)
  obtain ⟨a, b, hcl⟩ : ∃ a b, clipL f k (tot rs) = (a, b) := ⟨_, _, rfl⟩
  have hbd := clipL_bd f k (tot rs)
  rw [hcl] at hbd ⊢
  obtain ⟨t, ht⟩ : ∃ t, tot rs = t := ⟨_, rfl⟩
  rw [ht] at hcl hbd
  have HL := Lib.hid (fun (W : World) (h : Below w.heap.size w W) => len_any rs A n c w.heap.size W (hr.below h (Nat.le_refl _)) (by omega) t ht (by omega))
  have HC := Lib.hid (fun W => clip_any f k t a b W (by omega) hf1 hf2 hc1 hc2 hcl)
  have HP := Lib.hid (fun (W : World) (h : Below w.heap.size w W) => part_any rs A n c w.heap.size a b W (hr.below h (Nat.le_refl _)) hn hb (by simp only at hbd; omega) (by simp only at hbd; omega))
  clear hr hcl ht hb hbd
  go_enter Try.func26, Try.ntmps26
  go_wp2_with fail
  refine (HL.out _ (((Below.refl _ _).alloc (Nat.le_refl _) _).alloc (by simp) _)).mono ?_
  rintro e w1 ⟨rfl, hb1⟩
  obtain ⟨q1, z1, l1⟩ := Box.two hb1
  obtain ⟨q2, z2, l2⟩ := Box.new hb1
  have hs1 : w.heap.size + 2 ≤ w1.heap.size := by have := hb1.size; simpa using this
  have hbw := (((Below.refl _ w).alloc (Nat.le_refl _) (.cells #[.slice A n c] 38)).alloc (by simp) (.cells #[.slice none 0 0] 38)).trans (hb1.mono (by simp; omega))
  clear hb1 HL
  go_wp2_with fail
  refine (HC.out _).mono ?_
  rintro e w' ⟨rfl, rfl⟩
  go_wp2_with fail
  refine (HP.out _ hbw).mono ?_
  rintro e w2 ⟨v, rfl, hown, hb2⟩
  have hbw2 := hbw.trans (hb2.mono hbw.size)
  have q3 : w2.cell? ⟨w.heap.size + 1, 0, none⟩ = some (.slice none 0 0) := (hb2.cell (p := ⟨w.heap.size + 1, 0, none⟩) (by simpa using l2)).trans (by simpa using q2 0)
  have z3 : w2.frozen? ⟨w.heap.size + 1, 0, none⟩ = false := (hb2.frozen (p := ⟨w.heap.size + 1, 0, none⟩) (by simpa using l2)).trans (by simpa using z2 0)
  have l3 : w.heap.size + 1 < w2.heap.size := by have := hb2.size; omega
  obtain ⟨A2, c2, rfl, hc3, hR2⟩ := own_form hown
  have HO := Lib.hid hown
  clear q1 z1 l1 q2 z2 l2 HC HP hown
  go_wp2
  refine bodyPost_ret (v := lv A2 (partL rs a b).length c2) (by simp [results, Try.results26, go_sem, q3, z3, l3]) rfl ?_
  exact retO_of (ownsRow_setCell_below HO.out (show w.heap.size + 1 < w1.heap.size by omega) _) (by omega) (hbw2.setCell (by show w.heap.size ≤ w.heap.size + 1; omega) _)

/-- The values that lie in the range, of the first k. -/
def sel (vs : List Int) (a b k : Nat) : List Int := ((vs.take k).take b).drop a
theorem sel_in (vs : List Int) (a b k : Nat) (hk : k < vs.length) (h : a ≤ k ∧ k < b) : sel vs a b (k + 1) = sel vs a b k ++ [vs.getD k 0] := by
  have e : vs.getD k 0 = vs[k] := by simp [List.getD, List.getElem?_eq_getElem hk]
  rw [e, sel, sel, List.take_of_length_le (l := vs.take (k + 1)) (by rw [List.length_take]; omega), List.take_of_length_le (l := vs.take k) (by rw [List.length_take]; omega), List.take_succ_eq_append_getElem hk, List.drop_append_of_le_length (by simp; omega)]
theorem sel_out (vs : List Int) (a b k : Nat) (h : ¬ (a ≤ k ∧ k < b)) : sel vs a b (k + 1) = sel vs a b k := by
  unfold sel
  rw [List.take_take, List.take_take]
  by_cases hb : b ≤ k
  · rw [Nat.min_eq_left hb, Nat.min_eq_left (by omega)]
  · rw [List.drop_of_length_le (by simp; omega), List.drop_of_length_le (by simp; omega)]
theorem sel_all (vs : List Int) (a b : Nat) : sel vs a b vs.length = (vs.take b).drop a := by
  unfold sel
  rw [List.take_of_length_le (Nat.le_refl _)]
theorem sel_zero (vs : List Int) (a b : Nat) : sel vs a b 0 = [] := by simp [sel]
theorem sel_length (vs : List Int) (a b k : Nat) : (sel vs a b k).length ≤ k := by
  simp [sel]; omega
theorem clip_head (m cut : Nat) (h : cut ≤ m) : clipL 0 (cut : Int) m = (0, cut) := by
  unfold clipL
  by_cases h0 : cut = 0
  · subst h0
    rw [if_pos (.inl (by omega))]
  · rw [if_neg (by omega), if_neg (by omega), if_neg (by omega)]
    exact Prod.ext (by show (0 : Int).toNat = 0; omega) (by show ((0 : Int) + cut).toNat = cut; omega)
theorem clip_tail (vs : List Int) (cut : Nat) (h : cut ≤ vs.length) : (vs.take (clipL (cut : Int) ((vs.length : Int) - cut) vs.length).2).drop (clipL (cut : Int) ((vs.length : Int) - cut) vs.length).1 = vs.drop cut := by
  unfold clipL
  by_cases h0 : cut = vs.length
  · rw [if_pos (.inl (by omega)), h0]
    simp
  · rw [if_neg (by omega), if_neg (by omega), if_neg (by omega)]
    have e1 : ((cut : Int)).toNat = cut := by omega
    have e2 : ((cut : Int) + ((vs.length : Int) - cut)).toNat = vs.length := by omega
    simp only [e1, e2, List.take_of_length_le (Nat.le_refl _)]
/-- Cutting and appending restores the list. -/
theorem cut_append (rs : List (Rn Int)) (vs : List Int) (cut : Nat) (hmx : Mx rs) (he : expand rs = vs) (hc : cut ≤ vs.length) (h40 : vs.length ≤ 1000) :
    appendL (partL rs 0 cut) (partL rs (clipL (cut : Int) ((vs.length : Int) - cut) vs.length).1 (clipL (cut : Int) ((vs.length : Int) - cut) vs.length).2) = rs := by
  obtain ⟨P1, hP1⟩ : ∃ P, partL rs 0 cut = P := ⟨_, rfl⟩
  obtain ⟨P2, hP2⟩ : ∃ P, partL rs (clipL (cut : Int) ((vs.length : Int) - cut) vs.length).1 (clipL (cut : Int) ((vs.length : Int) - cut) vs.length).2 = P := ⟨_, rfl⟩
  have e1 : expand P1 = vs.take cut := by rw [← hP1, partL_expand, he, List.drop_zero]
  have e2 : expand P2 = vs.drop cut := by rw [← hP2, partL_expand, he, clip_tail vs cut hc]
  have m1 : Mx P1 := by rw [← hP1]; exact partL_Mx rs _ _ hmx
  have t1 : tot P1 = cut := by rw [← expand_length, e1, List.length_take]; omega
  rw [hP1, hP2, appendL]
  obtain ⟨f1, f2⟩ := foldl_push (partL P2 0 (65536 - tot P1)) P1 m1
  refine Mx_unique _ _ none none f1 hmx ?_
  rw [f2, partL_expand, e1, e2, List.drop_zero, List.take_of_length_le (l := vs.drop cut) (by rw [List.length_drop]; omega), List.take_append_drop, he]
end Go.Proofs.Ytjbbkhoonenfjaa

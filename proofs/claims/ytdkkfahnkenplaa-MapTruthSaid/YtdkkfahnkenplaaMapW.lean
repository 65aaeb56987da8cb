/- Layer 25: contract of the statements' window. -/
import Derived.Test.YtdkkfahnkenplaaMapH
import Derived.Test.YtdkkfahnkenplaaMake
set_option linter.unusedVariables false
set_option linter.unusedSimpArgs false
namespace Go.Proofs.Ytdkkfahnkenplaa
open Go.RowKit

theorem mod_eq (x n r : Int) (hn : 1 ≤ n) (hn2 : n ≤ 1000000000) (h : x % n = r) (w : World) : Calls Try.prog 20 #[.int .i64 x, .int .i64 n] w fun e w' => e = .returned (.int .i64 r) ∧ w = w' := by
  subst h; exact mod_any x n hn hn2 w
theorem boolInfo : (Try.prog.info? 4).map (fun i => (i.zero, i.size, i.bytes)) = some (some (.bool false), 1, 1) := by kernel_rfl
theorem one_bools (l : List Bool) : ∀ u ∈ l.map Value.bool, u.oneCell' = true := by
  intro u hu
  obtain ⟨x, _, rfl⟩ := List.mem_map.1 hu
  rfl
theorem Box.low {w w' : World} {b C : Nat} {cs : Array Value} (h : Box w b cs) (hb : Below C w w') (hc : b < C) : Box w' b cs :=
  ⟨fun i => (hb.cell (p := ⟨b, i, none⟩) hc).trans (h.1 i), fun i => (hb.frozen (p := ⟨b, i, none⟩) hc).trans (h.2.1 i), Nat.lt_of_lt_of_le h.2.2 hb.size⟩
def winL (set : List Bool) : List Bool := set.take 39 ++ [decide (39 < set.length) && set.getD 39 false]
theorem winL_len (set : List Bool) : (winL set).length = min set.length 39 + 1 := by simp [winL]; omega

set_option maxRecDepth 100000 in
set_option maxHeartbeats 2000000 in
theorem window_any (set : List Bool) (A : Option Addr) (n c m : Nat) (f0 m0 : Int) (w : World) (hr : Rd w w.heap.size 1 A n (set.map Value.bool)) (hnc : n ≤ c) (hn : c ≤ maxLen) (hm : min n 39 = m) (r3 r4 : Int) (h3 : f0 % (65536 - ((m : Int) + 1) + 1) = r3) (h4 : m0 % 50 = r4) :
    Calls Try.prog 21 #[.slice A n c, .int .i64 f0, .int .i64 m0] w fun e w' => ∃ A' c', e = .returned (.tuple #[.slice A' (m + 1) c', .agg #[.int .i64 r3, .int .i64 ((m : Int) + 1)], .int .i64 (1 + r4)]) ∧ Rd w' w'.heap.size 1 A' (m + 1) ((winL set).map Value.bool) ∧ Below w.heap.size w w' := by
  unfold maxLen at hn
  have hl : set.length = n := by have := hr.1; simpa using this
  have hm39 : m ≤ 39 := by omega
  have hmn : m ≤ n := by omega
  have H3 := Lib.hid (fun w => mod_eq f0 (65536 - ((m : Int) + 1) + 1) r3 (by omega) (by omega) h3 w)
  have H4 := Lib.hid (fun w => mod_eq m0 50 r4 (by omega) (by omega) h4 w)
  have b4 : 0 ≤ r4 ∧ r4 < 50 := by omega
  obtain ⟨b41, b42⟩ := b4
  have hrm := (hr.take hmn).alloc' (.cells #[.int .i64 0, .int .i64 0] 23) (Nat.le_refl _)
  have ht : (set.map Value.bool).take (m * 1) = (set.take 39).map Value.bool := by
    rw [Nat.mul_one, ← List.map_take]
    by_cases h : n ≤ 39
    · rw [List.take_of_length_le (by omega), List.take_of_length_le (by omega)]
    · rw [show m = 39 by omega]
  rw [ht] at hrm
  obtain ⟨x, hx⟩ : ∃ x, set.getD 39 false = x := ⟨_, rfl⟩
  have hw : winL set = set.take 39 ++ [decide (39 < n) && x] := by rw [winL, hl, hx]
  have HW := Lib.hid hw
  have HR := Lib.hid hr
  have HX := Lib.hid hx
  have HL := Lib.hid hl
  have HM := Lib.hid hrm
  have HQ := Lib.hid hm
  have HB0 := Lib.hid (Box.alloc_ (w := w) (cs := #[.int .i64 0, .int .i64 0]) (e := 23))
  have hb0 : Below w.heap.size w (w.alloc (.cells #[.int .i64 0, .int .i64 0] 23)) := (Below.refl _ _).alloc (Nat.le_refl _) _
  clear hr hx hl h3 h4 ht hw hrm hm
  have hmin : min (n : Int) 39 = (m : Int) := by have := HQ.out; omega
  have hcell : 39 < n → ∃ b off, A = some ⟨b, off, none⟩ ∧ ∀ W, Below w.heap.size w W → W.cell? ⟨b, off + 39, none⟩ = some (.bool x) := fun h => by
    obtain ⟨b, off, e, hb, hc⟩ := HR.out.2 (by omega)
    refine ⟨b, off, e, fun W hW => ?_⟩
    have hl := HL.out
    have e2 := HX.out
    rw [List.getD, List.getElem?_eq_getElem (by omega), Option.getD_some] at e2
    exact (hW.cell (p := ⟨b, off + 39, none⟩) hb).trans (hc 39 _ (by rw [List.getElem?_map, List.getElem?_eq_getElem (by omega), e2]; rfl))
  have HC := Lib.hid hcell
  clear hcell
  have hcn : n ≤ 9223372036854775807 := by omega
  by_cases h39 : 39 < n
  · obtain ⟨b, off, rfl, hc39⟩ := HC.out h39
    have HC39 := Lib.hid hc39
    have hd : (decide (39 < n) && x) = x := by simp [h39]
    have HD := Lib.hid hd
    have d1 : decide ((39 : Int) < (n : Int)) = true := by simp; omega
    clear hc39 HC hd
    go_enter Try.func21, Try.ntmps21
    go_wp2_with (first
      | (at_builtin; refine wpList_appR (.const (.slice none 0 0)) (.tmp 13) 52 (w.heap.size + 1) 4 _ 1 1 _ 0 [] w.heap.size (some ⟨b, off, none⟩) m c _ Try.underlying52 boolInfo rfl (by decide) rfl rfl rfl rfl (World.ownsRow_nil _ _ _ _) HM.out (one_bools _) (by omega) (by omega) (by simp) ?_; intro v1 w1 hown1 hg1 hb1; rw [Nat.zero_add, List.nil_append] at hown1; obtain ⟨A1, c1, hv1, hmc1, hR1⟩ := own_form hown1; subst hv1; have hbw1 : Below w.heap.size w w1 := hb0.trans (hb1.mono (by omega)); have y0 := HC39.out w1 hbw1)
      | (at_builtin; refine wpList_appR (.tmp 14) (.tmp 23) 52 (w.heap.size + 1) 4 _ 1 1 _ m ((set.take 39).map Value.bool) (w1.heap.size + 1) (some ⟨w1.heap.size, 0, none⟩) 1 1 _ Try.underlying52 boolInfo rfl (by decide) rfl rfl rfl rfl (hown1.alloc _) (Rd.lit rfl (Nat.lt_succ_self _)) (one_bools [x]) (by omega) (by omega) (by have := hb1.size; simp at this ⊢; omega) ?_; intro v2 w2 hown2 hg2 hb2; obtain ⟨A2, c2, hv2, hmc2, hR2⟩ := own_form hown2; subst hv2; have HO2 := Lib.hid hown2; clear hown1 hR1 hg1 hown2 hR2 hg2))
    refine (H3.out _).mono ?_
    rintro e w3 ⟨rfl, rfl⟩
    go_wp2_with fail
    refine (H4.out _).mono ?_
    rintro e w3 ⟨rfl, rfl⟩
    have HB2 := ((HB0.out.low hb1 (Nat.lt_succ_self _)).alloc' (.cells #[.bool x] 4)).low hb2 (Nat.lt_succ_self _)
    have hbw2 := (hbw1.alloc hbw1.size (.cells #[.bool x] 4)).trans (hb2.mono (by omega))
    have hBf := (HB2.set (k := 0) (v := .int .i64 r3) (cs' := #[.int .i64 r3, .int .i64 0]) (by simp) rfl).set (k := 1) (v := .int .i64 ((m : Int) + 1)) (cs' := #[.int .i64 r3, .int .i64 ((m : Int) + 1)]) (by simp) rfl
    have hbf := (hbw2.setCell (p := ⟨w.heap.size, 0, none⟩) (Nat.le_refl _) (.int .i64 r3)).setCell (p := ⟨w.heap.size, 1, none⟩) (Nat.le_refl _) (.int .i64 ((m : Int) + 1))
    have hof := ownsRow_setCell_below (ownsRow_setCell_below HO2.out (show (⟨w.heap.size, 0, none⟩ : Addr).block < w.heap.size + 1 from Nat.lt_succ_self _) (.int .i64 r3)) (show (⟨w.heap.size, 1, none⟩ : Addr).block < w.heap.size + 1 from Nat.lt_succ_self _) (.int .i64 ((m : Int) + 1))
    have HOF := Lib.hid hof
    have hwl : (winL set).map Value.bool = (set.take 39).map Value.bool ++ [.bool x] := by rw [HW.out, HD.out, List.map_append]; rfl
    have HWL := Lib.hid hwl
    obtain ⟨qz, zz, lz⟩ := HB2
    clear hof hwl
    go_wp2
    obtain ⟨qf, zf, lf⟩ := hBf
    refine bodyPost_ret (v := .tuple #[.slice A2 (m + 1) c2, .agg #[.int .i64 r3, .int .i64 ((m : Int) + 1)], .int .i64 (1 + r4)]) (by simp [results, Try.results21, go_sem, qf, zf, lf]) rfl ⟨A2, c2, rfl, by rw [HWL.out]; exact Rd.of_own HOF.out, hbf⟩
  · have hd : (decide (39 < n) && x) = false := by simp [h39]
    have HD := Lib.hid hd
    have d1 : decide ((39 : Int) < (n : Int)) = false := by simp; omega
    have d2 : decide (39 < n) = false := by simp; omega
    clear HC hd
    go_enter Try.func21, Try.ntmps21
    go_wp2_with (first
      | (at_builtin; refine wpList_appR (.const (.slice none 0 0)) (.tmp 13) 52 (w.heap.size + 1) 4 _ 1 1 _ 0 [] w.heap.size A m c _ Try.underlying52 boolInfo rfl (by decide) rfl rfl rfl rfl (World.ownsRow_nil _ _ _ _) HM.out (one_bools _) (by omega) (by omega) (by simp) ?_; intro v1 w1 hown1 hg1 hb1; rw [Nat.zero_add, List.nil_append] at hown1; obtain ⟨A1, c1, hv1, hmc1, hR1⟩ := own_form hown1; subst hv1; have hbw1 : Below w.heap.size w w1 := hb0.trans (hb1.mono (by omega)))
      | (at_builtin; refine wpList_appR (.tmp 14) (.tmp 23) 52 (w.heap.size + 1) 4 _ 1 1 _ m ((set.take 39).map Value.bool) (w1.heap.size + 1) (some ⟨w1.heap.size, 0, none⟩) 1 1 _ Try.underlying52 boolInfo rfl (by decide) rfl rfl rfl rfl (hown1.alloc _) (Rd.lit rfl (Nat.lt_succ_self _)) (one_bools [false]) (by omega) (by omega) (by have := hb1.size; simp at this ⊢; omega) ?_; intro v2 w2 hown2 hg2 hb2; obtain ⟨A2, c2, hv2, hmc2, hR2⟩ := own_form hown2; subst hv2; have HO2 := Lib.hid hown2; clear hown1 hR1 hg1 hown2 hR2 hg2))
    refine (H3.out _).mono ?_
    rintro e w3 ⟨rfl, rfl⟩
    go_wp2_with fail
    refine (H4.out _).mono ?_
    rintro e w3 ⟨rfl, rfl⟩
    have HB2 := ((HB0.out.low hb1 (Nat.lt_succ_self _)).alloc' (.cells #[.bool false] 4)).low hb2 (Nat.lt_succ_self _)
    have hbw2 := (hbw1.alloc hbw1.size (.cells #[.bool false] 4)).trans (hb2.mono (by omega))
    have hBf := (HB2.set (k := 0) (v := .int .i64 r3) (cs' := #[.int .i64 r3, .int .i64 0]) (by simp) rfl).set (k := 1) (v := .int .i64 ((m : Int) + 1)) (cs' := #[.int .i64 r3, .int .i64 ((m : Int) + 1)]) (by simp) rfl
    have hbf := (hbw2.setCell (p := ⟨w.heap.size, 0, none⟩) (Nat.le_refl _) (.int .i64 r3)).setCell (p := ⟨w.heap.size, 1, none⟩) (Nat.le_refl _) (.int .i64 ((m : Int) + 1))
    have hof := ownsRow_setCell_below (ownsRow_setCell_below HO2.out (show (⟨w.heap.size, 0, none⟩ : Addr).block < w.heap.size + 1 from Nat.lt_succ_self _) (.int .i64 r3)) (show (⟨w.heap.size, 1, none⟩ : Addr).block < w.heap.size + 1 from Nat.lt_succ_self _) (.int .i64 ((m : Int) + 1))
    have HOF := Lib.hid hof
    have hwl : (winL set).map Value.bool = (set.take 39).map Value.bool ++ [.bool false] := by rw [HW.out, HD.out, List.map_append]; rfl
    have HWL := Lib.hid hwl
    obtain ⟨qz, zz, lz⟩ := HB2
    clear hof hwl
    go_wp2
    obtain ⟨qf, zf, lf⟩ := hBf
    refine bodyPost_ret (v := .tuple #[.slice A2 (m + 1) c2, .agg #[.int .i64 r3, .int .i64 ((m : Int) + 1)], .int .i64 (1 + r4)]) (by simp [results, Try.results21, go_sem, qf, zf, lf]) rfl ⟨A2, c2, rfl, by rw [HWL.out]; exact Rd.of_own HOF.out, hbf⟩
end Go.Proofs.Ytdkkfahnkenplaa

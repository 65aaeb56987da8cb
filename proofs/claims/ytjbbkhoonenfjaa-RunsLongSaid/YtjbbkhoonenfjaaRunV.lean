/- Layer 4: Of, the statements' values and is, the chapter's example, the law RunsOf. -/
import Derived.Test.YtjbbkhoonenfjaaRunU
import Derived.Test.YtjbbkhoonenfjaaMake
set_option linter.unusedVariables false
set_option linter.unusedSimpArgs false
namespace Go.Proofs.Ytjbbkhoonenfjaa
open Go.RowKit

theorem mod_eq (x n r : Int) (hn : 1 ≤ n) (hn2 : n ≤ 1000000000) (h : x % n = r) (w : World) : Calls Try.prog 14 #[.int .i64 x, .int .i64 n] w fun e w' => e = .returned (.int .i64 r) ∧ w = w' := by
  subst h; exact mod_any x n hn hn2 w
theorem intInfo : (Try.prog.info? 3).map (fun i => (i.zero, i.size, i.bytes)) = some (some (.int .i64 0), 1, 8) := by kernel_rfl

set_option maxRecDepth 100000 in
set_option maxHeartbeats 2000000 in
theorem of_any (vs : List Int) (A : Option Addr) (n c B : Nat) (w : World) (hr : Rd w B 1 A n (i64s vs)) (hn : n ≤ 10000) :
    Calls Try.prog 21 #[.slice A n c] w (RetL w (ofL vs)) := by
  have hr := hr.fits (by decide)
  have hl : vs.length = n := by have := hr.1; simpa using this
  have HR := Lib.hid hr
  have HL := Lib.hid hl
  have hd0 : decide ((65536 : Int) < (n : Int)) = false := by simp; omega
  clear hr hl
  go_enter Try.func21, Try.ntmps21
  go_wp2
  go_loopw [3, 4, 13] (fun v x i wr => ∃ (k m : Nat) (R : List (Rn Int)), k ≤ n ∧ i = .int .i64 k ∧ x = .int .i64 m ∧ m ≤ k ∧ R.length ≤ k ∧ OfInv vs k m R ∧ wr.ownsRow (w.heap.size + 1) 36 2 v R.length (rnCells R) ∧ Box wr w.heap.size #[.slice none 0 0] ∧ Below w.heap.size w wr) (fun _ _ i _ => n - (intOf i).toNat)
  case atStart => exact ⟨0, 0, [], by omega, rfl, rfl, by omega, by simp, .inl ⟨rfl, rfl, fun _ l h => by simp at h⟩, World.ownsRow_nil _ _ _ _, Box.alloc_, (Below.refl _ _).alloc (Nat.le_refl _) _⟩
  case round =>
    obtain ⟨k, m, R, hk, rfl, rfl, hmk, hRk, hinv, hown, hC, hbw⟩ := hrel
    have hsz : w.heap.size + 1 ≤ wr.heap.size := hC.2.2
    by_cases hlt : k < n
    · obtain ⟨b, off, rfl, hbl, c0⟩ := int_at (HR.out.below hbw (Nat.le_refl _)) k hlt
      obtain ⟨x, hx⟩ : ∃ x, vs.getD k 0 = x := ⟨_, rfl⟩
      rw [hx] at c0
      have hcl : ∀ (v1 : Value) (w1 : World), w1.ownsRow (w.heap.size + 1) 36 2 v1 (R.length + 1) (rnCells R ++ [.int .i64 ((m : Int) + 1), .int .i64 x]) → w1.ownsRow (w.heap.size + 1) 36 2 v1 (R ++ [(m + 1, x)]).length (rnCells (R ++ [(m + 1, x)])) := by
        intro v1 w1 h
        rw [rnCells_append, List.length_append]
        exact h
      have HCL := Lib.hid hcl
      have HI := Lib.hid hinv
      have HX := Lib.hid hx
      have HC := Lib.hid hC
      have HO := Lib.hid hown
      clear hcl hinv hx hC hown
      by_cases hlast : k + 1 = n
      · have hd : ((k : Int) + 1 == (n : Int)) = true := by simp; omega
        have hnext : OfInv vs (k + 1) 0 (R ++ [(m + 1, x)]) := by rw [← HX.out]; exact of_close vs k m R (by rw [HL.out]; omega) HI.out (.inl (by rw [HL.out]; omega))
        have HN := Lib.hid hnext
        clear hnext
        clear hlast
        go_wp2_with (at_builtin; refine wpList_appN (.tmp 34) (.tmp 38) 34 (w.heap.size + 1) 36 _ 2 16 _ R.length (rnCells R) (wr.heap.size + 1) (some ⟨wr.heap.size, 0, none⟩) 1 1 _ Try.underlying34 rnInfo rfl (by decide) rfl rfl rfl rfl (own_box HO.out _) (Rd.lit rfl (Nat.lt_succ_self _)) (two_one _ _) (by omega) (by omega) (by simp; omega) ?_; intro v1 w1 hown1 hg1 hn1 hb1)
        have hC1 := (HC.out.alloc' (.cells #[.int .i64 ((m : Int) + 1), .int .i64 x] 36)).row hg1 (ne_row HO.out (by omega))
        have hbw1 := below_row (hbw.alloc hbw.size (.cells #[.int .i64 ((m : Int) + 1), .int .i64 x] 36)) (own_box HO.out _) hg1 (by omega) (by simp; omega)
        exact ⟨⟨k + 1, 0, R ++ [(m + 1, x)], by omega, by go_num, rfl, by omega, by simp; omega, HN.out, HCL.out _ _ hown1, hC1, hbw1⟩, by simp [intOf]; omega⟩
      · have hd : ((k : Int) + 1 == (n : Int)) = false := by simp; omega
        obtain ⟨_, _, e0, _, c1⟩ := int_at (HR.out.below hbw (Nat.le_refl _)) (k + 1) (by omega)
        obtain ⟨rfl, rfl⟩ : b = _ ∧ off = _ := by injection e0 with e0; injection e0 with e1 e2; exact ⟨e1, e2⟩
        obtain ⟨y, hy⟩ : ∃ y, vs.getD (k + 1) 0 = y := ⟨_, rfl⟩
        rw [hy] at c1
        have HY := Lib.hid hy
        clear e0 hy
        by_cases hxy : y = x
        · subst hxy
          have hnext : OfInv vs (k + 1) (m + 1) R := of_open vs k m R (by rw [HL.out]; omega) HI.out (by rw [HX.out, HY.out])
          have HN := Lib.hid hnext
          have HC' := HC.out
          clear hnext
          go_wp2
          exact ⟨⟨k + 1, m + 1, R, by omega, by go_num, by go_num, by omega, by omega, HN.out, HO.out, HC', hbw⟩, by simp [intOf]; omega⟩
        · have hne : (y != x) = true := by simpa using hxy
          have hnext : OfInv vs (k + 1) 0 (R ++ [(m + 1, x)]) := by rw [← HX.out]; exact of_close vs k m R (by rw [HL.out]; omega) HI.out (.inr (by rw [HX.out, HY.out]; exact hxy))
          have HN := Lib.hid hnext
          clear hnext hxy
          go_wp2_with (at_builtin; refine wpList_appN (.tmp 34) (.tmp 38) 34 (w.heap.size + 1) 36 _ 2 16 _ R.length (rnCells R) (wr.heap.size + 1) (some ⟨wr.heap.size, 0, none⟩) 1 1 _ Try.underlying34 rnInfo rfl (by decide) rfl rfl rfl rfl (own_box HO.out _) (Rd.lit rfl (Nat.lt_succ_self _)) (two_one _ _) (by omega) (by omega) (by simp; omega) ?_; intro v1 w1 hown1 hg1 hn1 hb1)
          have hC1 := (HC.out.alloc' (.cells #[.int .i64 ((m : Int) + 1), .int .i64 x] 36)).row hg1 (ne_row HO.out (by omega))
          have hbw1 := below_row (hbw.alloc hbw.size (.cells #[.int .i64 ((m : Int) + 1), .int .i64 x] 36)) (own_box HO.out _) hg1 (by omega) (by simp; omega)
          exact ⟨⟨k + 1, 0, R ++ [(m + 1, x)], by omega, by go_num, rfl, by omega, by simp; omega, HN.out, HCL.out _ _ hown1, hC1, hbw1⟩, by simp [intOf]; omega⟩
    · obtain rfl : k = n := by omega
      have hfin : R = ofL vs := by
        rcases hinv with ⟨_, h, _⟩ | ⟨_, h, _⟩
        · rw [h, List.take_of_length_le (by rw [HL.out]; omega)]
        · rw [HL.out] at h; omega
      have HF := Lib.hid hfin
      obtain ⟨A5, c5, hv5, _, _⟩ := own_form hown
      subst hv5
      have HO := Lib.hid hown
      obtain ⟨q2, z2, l2⟩ := hC
      clear hown hfin hinv
      go_wp2
      refine bodyPost_ret (v := lv A5 R.length c5) (by simp [results, Try.results21, go_sem, q2, z2, l2]) rfl ⟨A5, _, c5, rfl, ?_, hbw.setCell (by simp) _⟩
      rw [← HF.out]
      exact Rd.of_own (ownsRow_setCell_below HO.out (show w.heap.size < w.heap.size + 1 by omega) _)

/-! ### values -/
def vals (l : List Int) : List Int := (l.take 40).map (· % 4)
theorem one_i64 (l : List Int) : ∀ u ∈ i64s l, u.oneCell' = true := by
  intro u hu
  obtain ⟨x, _, rfl⟩ := List.mem_map.1 hu
  rfl
theorem one1 (a : Int) : ∀ u ∈ [Value.int .i64 a], u.oneCell' = true := by simp [Value.oneCell']
set_option maxRecDepth 100000 in
set_option maxHeartbeats 1000000 in
theorem values_any (l : List Int) (A : Option Addr) (n c B : Nat) (w : World) (hr : Rd w B 1 A n (i64s l)) (hm : n ≤ maxLen) (vs : List Int) (hv : vals l = vs) (m : Nat) (hvl : vs.length = m) :
    Calls Try.prog 20 #[.slice A n c] w fun e w' => ∃ A c, e = .returned (.slice A m c) ∧ w'.ownsRow w.heap.size 3 1 (.slice A m c) m (i64s vs) ∧ Below w.heap.size w w' := by
  unfold maxLen at hm
  have hr := hr.fits (by decide)
  have hl : l.length = n := by have := hr.1; simpa using this
  have hmn : m = min n 40 := by rw [← hvl, ← hv, vals]; simp [hl]; omega
  have HR := Lib.hid hr
  have HL := Lib.hid hl
  have HV := Lib.hid hv
  clear hr hl hv hvl
  go_enter Try.func20, Try.ntmps20
  go_wp2
  go_loopw [3, 4] (fun v i wr => ∃ k : Nat, k ≤ m ∧ i = .int .i64 k ∧ wr.ownsRow w.heap.size 3 1 v k (i64s ((l.take k).map (· % 4))) ∧ Below w.heap.size w wr) (fun _ i _ => m - (intOf i).toNat)
  case atStart => exact ⟨0, by omega, rfl, World.ownsRow_nil _ _ _ _, Below.refl _ _⟩
  case round =>
    obtain ⟨k, hk, rfl, hown, hbw⟩ := hrel
    by_cases hlt : k < m
    · obtain ⟨b, off, rfl, hbl, c0⟩ := int_at (HR.out.below hbw (Nat.le_refl _)) k (by omega)
      obtain ⟨x, hx⟩ : ∃ x, l.getD k 0 = x := ⟨_, rfl⟩
      rw [hx] at c0
      obtain ⟨r, hr⟩ : ∃ r, x % 4 = r := ⟨_, rfl⟩
      have HM := Lib.hid (fun w => mod_eq x 4 r (by omega) (by omega) hr w)
      have hnx : i64s ((l.take (k + 1)).map (· % 4)) = i64s ((l.take k).map (· % 4)) ++ [.int .i64 r] := by
        have hkl : k < l.length := by rw [HL.out]; omega
        rw [List.take_succ_eq_append_getElem hkl]
        have : l[k] = x := by rw [← hx]; simp [List.getD, List.getElem?_eq_getElem hkl]
        simp [this, hr]
      have HNX := Lib.hid hnx
      have k40 : k < 40 := by omega
      have kn : k < n := by omega
      have HO := Lib.hid hown
      clear hnx hr hx hown
      go_wp2_with fail
      refine (HM.out _).mono ?_
      rintro e w' ⟨rfl, rfl⟩
      go_wp2_with (at_builtin; refine wpList_app (.tmp 15) (.tmp 21) 33 w.heap.size 3 _ 1 8 _ k 1 1 _ Try.underlying33 intInfo rfl (by decide) rfl rfl rfl rfl HO.out rfl (by simp [Value.oneCell']) (by omega) (by omega) hbw.size ?_; intro v1 w1 hown1 hg1 hb1)
      exact ⟨⟨k + 1, by omega, by go_num, by rw [HNX.out]; exact hown1, hbw.trans hb1⟩, by simp [intOf]; omega⟩
    · obtain rfl : k = m := by omega
      have hfin : (l.take k).map (· % 4) = vs := by
        rw [← HV.out, vals]
        by_cases h40 : n ≤ 40
        · rw [List.take_of_length_le (by rw [HL.out]; omega), List.take_of_length_le (by rw [HL.out]; omega)]
        · rw [show k = 40 by omega]
      rw [hfin] at hown
      have HO := Lib.hid hown
      clear hown hfin
      have hcase : (k < n ∧ 40 ≤ k) ∨ n ≤ k := by omega
      rcases hcase with ⟨h1, h2⟩ | h1
      all_goals
        go_wp2
        go_ret
        obtain ⟨A5, c5, hv5, _, _⟩ := own_form HO.out
        rw [hv5]
        rw [hv5] at HO
        exact ⟨A5, c5, rfl, HO.out, hbw⟩
end Go.Proofs.Ytjbbkhoonenfjaa

/- Layer 12: contracts of ranges.Union, Intersect, Subtract, Clip: the same lists as the reference's. -/
import Derived.Test.YtebeaghombjooaaRk
set_option linter.unusedVariables false
set_option linter.unusedSimpArgs false
namespace Go.Proofs.Ytebeaghombjooaa
open Go.RowKit

theorem closeTo_congr (f g : Nat → Bool) (n : Nat) (h : ∀ i, i < n → f i = g i) : closeTo f n = closeTo g n := by
  induction n with
  | zero => rfl
  | succ n ih => rw [closeTo, closeTo, ih fun i hi => h i (by omega), h n (by omega)]
theorem closeTo_none (f : Nat → Bool) (n : Nat) (h : ∀ i, i < n → f i = false) : closeTo f n = [] := by
  induction n with
  | zero => rfl
  | succ n ih => rw [closeTo, h n (by omega), ih fun i hi => h i (by omega)]; rfl
theorem comb_close (l m : List Rg) (kd : Int) (N : Nat) (hN : N = 65536) : combL (kindF kd) (setL l) (setL m) = closeTo (joinF kd (openF l) (openF m) N) N := by
  obtain ⟨h1, h2⟩ := combL_spec (kindF kd) (setL l) (setL m) (setL_valid l) (setL_valid m)
  refine (close_eq _ h1 _ N hN fun i hi => ?_).symm
  rw [h2, joinF, if_pos hi]
  have : decide (0 ≤ (i : Int) ∧ (i : Int) < 65536) = true := by simp only [decide_eq_true_eq]; omega
  rw [this, Bool.true_and]
  rfl

theorem union1_any (x y : Bool) (w : World) : Calls Try.prog 31 #[.bool x, .bool y] w fun e w' => e = .returned (.bool (kindF 0 x y)) ∧ w = w' := by
  cases x <;> cases y <;>
  · go_enter Try.func31, Try.ntmps31
    go_wp2
    go_ret
    exact ⟨rfl, rfl⟩
theorem intersect1_any (x y : Bool) (w : World) : Calls Try.prog 34 #[.bool x, .bool y] w fun e w' => e = .returned (.bool (kindF 1 x y)) ∧ w = w' := by
  cases x <;> cases y <;>
  · go_enter Try.func34, Try.ntmps34
    go_wp2
    go_ret
    exact ⟨rfl, rfl⟩
theorem subtract1_any (x y : Bool) (w : World) : Calls Try.prog 35 #[.bool x, .bool y] w fun e w' => e = .returned (.bool (kindF 2 x y)) ∧ w = w' := by
  cases x <;> cases y <;>
  · go_enter Try.func35, Try.ntmps35
    go_wp2
    go_ret
    exact ⟨rfl, rfl⟩

theorem union_any (l m : List Rg) (A A2 : Option Addr) (n c n2 c2 B B2 N : Nat) (w : World) (hr : Rd w B 2 A n (rgCells l)) (hr2 : Rd w B2 2 A2 n2 (rgCells m)) (hn : n ≤ 70000) (hn2 : n2 ≤ 70000) (hN : N = 65536) :
    Calls Try.prog 12 #[.slice A n c, .slice A2 n2 c2] w (RetR w (closeTo (joinF 0 (openF l) (openF m) N) N)) := by
  have h := combine_any 31 (enters_of Try.func31 (by kernel_rfl) rfl) (kindF 0) union1_any l m A A2 n c n2 c2 B B2 w hr hr2 hn hn2
  rw [comb_close l m 0 N hN] at h
  have HH := Lib.hid h
  clear h hN hr hr2
  go_enter Try.func12, Try.ntmps12
  go_wp2_with fail
  refine HH.out.mono ?_
  rintro e w1 ⟨v, rfl, hown, hb⟩
  obtain ⟨A3, c3, rfl, _, _⟩ := own_form hown
  have HO := Lib.hid hown
  clear hown
  go_wp2
  go_ret
  exact ⟨_, rfl, HO.out, hb⟩
theorem intersect_any (l m : List Rg) (A A2 : Option Addr) (n c n2 c2 B B2 N : Nat) (w : World) (hr : Rd w B 2 A n (rgCells l)) (hr2 : Rd w B2 2 A2 n2 (rgCells m)) (hn : n ≤ 70000) (hn2 : n2 ≤ 70000) (hN : N = 65536) :
    Calls Try.prog 14 #[.slice A n c, .slice A2 n2 c2] w (RetR w (closeTo (joinF 1 (openF l) (openF m) N) N)) := by
  have h := combine_any 34 (enters_of Try.func34 (by kernel_rfl) rfl) (kindF 1) intersect1_any l m A A2 n c n2 c2 B B2 w hr hr2 hn hn2
  rw [comb_close l m 1 N hN] at h
  have HH := Lib.hid h
  clear h hN hr hr2
  go_enter Try.func14, Try.ntmps14
  go_wp2_with fail
  refine HH.out.mono ?_
  rintro e w1 ⟨v, rfl, hown, hb⟩
  obtain ⟨A3, c3, rfl, _, _⟩ := own_form hown
  have HO := Lib.hid hown
  clear hown
  go_wp2
  go_ret
  exact ⟨_, rfl, HO.out, hb⟩
theorem subtract_any (l m : List Rg) (A A2 : Option Addr) (n c n2 c2 B B2 N : Nat) (w : World) (hr : Rd w B 2 A n (rgCells l)) (hr2 : Rd w B2 2 A2 n2 (rgCells m)) (hn : n ≤ 70000) (hn2 : n2 ≤ 70000) (hN : N = 65536) :
    Calls Try.prog 15 #[.slice A n c, .slice A2 n2 c2] w (RetR w (closeTo (joinF 2 (openF l) (openF m) N) N)) := by
  have h := combine_any 35 (enters_of Try.func35 (by kernel_rfl) rfl) (kindF 2) subtract1_any l m A A2 n c n2 c2 B B2 w hr hr2 hn hn2
  rw [comb_close l m 2 N hN] at h
  have HH := Lib.hid h
  clear h hN hr hr2
  go_enter Try.func15, Try.ntmps15
  go_wp2_with fail
  refine HH.out.mono ?_
  rintro e w1 ⟨v, rfl, hown, hb⟩
  obtain ⟨A3, c3, rfl, _, _⟩ := own_form hown
  have HO := Lib.hid hown
  clear hown
  go_wp2
  go_ret
  exact ⟨_, rfl, HO.out, hb⟩

theorem openF_one (f d : Int) (h : okR 0 (f, d) = true) (i : Nat) : openF [(f, d)] i = inR i (f, d) := by
  have hv : validL [(f, d)] = true := by simp [validL, validGo, h]
  rw [openF, setL, if_pos hv, inL_one]
theorem clip_eq (l : List Rg) (x : Rg) (f d : Int) (N : Nat) (hN : N = 65536) (ho : okR 0 (f, d) = true) (h : ∀ i : Nat, i < N → inC x i = inR i (f, d)) : closeTo (joinF 1 (openF l) (openF [(f, d)]) N) N = closeTo (clipF x (openF l) N) N := by
  refine closeTo_congr _ _ _ fun i hi => ?_
  rw [joinF, if_pos hi, clipF, if_pos hi, openF_one f d ho, h i hi]
  rfl
theorem clip_none (l : List Rg) (x : Rg) (N : Nat) (h : ∀ i : Nat, i < N → inC x i = false) : closeTo (clipF x (openF l) N) N = [] := by
  refine closeTo_none _ _ fun i hi => ?_
  rw [clipF, if_pos hi, h i hi, Bool.and_false]
set_option maxHeartbeats 2000000 in
theorem clip_any (l : List Rg) (A : Option Addr) (n c B N : Nat) (x : Rg) (w : World) (hr : Rd w B 2 A n (rgCells l)) (hn : n ≤ 70000) (hN : N = 65536)
    (hx1 : -9223372036854775808 ≤ x.1 ∧ x.1 ≤ 9223372036854775807) (hx2 : -9223372036854775808 ≤ x.2 ∧ x.2 ≤ 9223372036854775807) :
    Calls Try.prog 22 #[.slice A n c, rgV x] w (RetR w (closeTo (clipF x (openF l) N) N)) := by
  have hr := hr.fits (by decide)
  obtain ⟨x1, x2⟩ := x
  simp only [rgV] at hx1 hx2 ⊢
  have hnil : (∀ i : Nat, i < N → inC (x1, x2) i = false) → ∀ W, Below w.heap.size w W → RetR w (closeTo (clipF (x1, x2) (openF l) N) N) (.returned (.slice none 0 0)) W := by
    intro h W hb
    rw [clip_none l (x1, x2) N h]
    exact ⟨_, rfl, World.ownsRow_nil _ _ _ _, hb⟩
  have HNIL := Lib.hid hnil
  have hint : ∀ (f d D : Int) (ho : okR 0 (f, d) = true) (h : ∀ i : Nat, i < N → inC (x1, x2) i = inR i (f, d)) (hD : D = d) (W : World) (hb : Below w.heap.size w W) (A' : Option Addr) (c' : Nat) (hl : Rd W W.heap.size 2 A' 1 [.int .i64 f, .int .i64 D]),
      Calls Try.prog 14 #[.slice A n c, .slice A' 1 c'] W (RetR W (closeTo (clipF (x1, x2) (openF l) N) N)) := by
    intro f d D ho h hD W hb A' c' hl
    subst hD
    have := intersect_any l [(f, D)] A A' n c 1 c' _ _ N W (hr.below hb (Nat.le_refl _)) (show Rd W W.heap.size 2 A' 1 (rgCells [(f, D)]) from hl) hn (by omega) hN
    rw [clip_eq l (x1, x2) f D N hN ho h] at this
    exact this
  have HINT := Lib.hid hint
  have HN := Lib.hid hN
  have hb0 : ∀ o, Below w.heap.size w (w.alloc o) := fun o => (Below.refl _ _).alloc (Nat.le_refl _) _
  have HB0 := Lib.hid hb0
  have hb1 : ∀ o o', Below w.heap.size w ((w.alloc o).alloc o') := fun o o' => ((Below.refl _ _).alloc (Nat.le_refl _) _).alloc (by simp) _
  have HB1 := Lib.hid hb1
  have fin : ∀ (e : Ending) (o o' : Obj) (W : World), RetR ((w.alloc o).alloc o') (closeTo (clipF (x1, x2) (openF l) N) N) e W → RetR w (closeTo (clipF (x1, x2) (openF l) N) N) e W := fun e o o' W h => h.after (hb1 o o')
  have FIN := Lib.hid fin
  obtain ⟨g1, g2⟩ := hx1
  obtain ⟨g3, g4⟩ := hx2
  clear hr hnil hint hN hb0 hb1 fin
  by_cases h1 : x2 < 1
  · go_enter Try.func22, Try.ntmps22
    go_wp2
    go_ret
    exact HNIL.out (fun i hi => by simp [inC]; omega) _ (HB0.out _)
  · have d1 : decide (x2 < 1) = false := by simp; omega
    have d1' : 1 ≤ x2 := by omega
    clear h1
    by_cases h2 : 65536 ≤ x1
    · go_enter Try.func22, Try.ntmps22
      go_wp2
      go_ret
      exact HNIL.out (fun i hi => by have := HN.out; simp [inC]; omega) _ (HB0.out _)
    · have d2 : decide (65536 ≤ x1) = false := by simp; omega
      have d2' : x1 < 65536 := by omega
      clear h2
      by_cases h3 : x1 < 0
      · by_cases h4 : x1 + x2 < 65536
        · by_cases h5 : x1 + x2 ≤ 0
          · go_enter Try.func22, Try.ntmps22
            go_wp2
            go_ret
            exact HNIL.out (fun i hi => by simp [inC]; omega) _ (HB0.out _)
          · have d5 : decide (x1 + x2 ≤ 0) = false := by simp; omega
            have d5' : 0 < x1 + x2 := by omega
            clear h5
            go_enter Try.func22, Try.ntmps22
            go_wp2_with fail
            refine (HINT.out 0 (x1 + x2) _ (by simp [okR]; omega) (fun i hi => by rw [inC, inR, decide_eq_decide]; simp only; omega) (by omega) _ (HB1.out _ _) _ _ (Rd.lit2 rfl (by simp))).mono ?_
            intro e W h
            obtain ⟨v, rfl, hown, hb⟩ := FIN.out _ _ _ _ h
            obtain ⟨A3, c3, rfl, _, _⟩ := own_form hown
            have HO := Lib.hid hown
            clear hown h
            go_wp2
            go_ret
            exact ⟨_, rfl, HO.out, hb⟩
        · have d4 : decide (x1 + x2 < 65536) = false := by simp; omega
          have d4' : 65536 ≤ x1 + x2 := by omega
          clear h4
          go_enter Try.func22, Try.ntmps22
          go_wp2_with fail
          refine (HINT.out 0 65536 _ (by simp [okR]) (fun i hi => by have := HN.out; rw [inC, inR, decide_eq_decide]; simp only; omega) (by omega) _ (HB1.out _ _) _ _ (Rd.lit2 rfl (by simp))).mono ?_
          intro e W h
          obtain ⟨v, rfl, hown, hb⟩ := FIN.out _ _ _ _ h
          obtain ⟨A3, c3, rfl, _, _⟩ := own_form hown
          have HO := Lib.hid hown
          clear hown h
          go_wp2
          go_ret
          exact ⟨_, rfl, HO.out, hb⟩
      · have d3 : decide (x1 < 0) = false := by simp; omega
        have d3' : 0 ≤ x1 := by omega
        clear h3
        by_cases h4 : 65536 - x1 < x2
        · go_enter Try.func22, Try.ntmps22
          go_wp2_with fail
          refine (HINT.out x1 (65536 - x1) _ (by simp [okR]; omega) (fun i hi => by have := HN.out; rw [inC, inR, decide_eq_decide]; simp only; omega) (by omega) _ (HB1.out _ _) _ _ (Rd.lit2 rfl (by simp))).mono ?_
          intro e W h
          obtain ⟨v, rfl, hown, hb⟩ := FIN.out _ _ _ _ h
          obtain ⟨A3, c3, rfl, _, _⟩ := own_form hown
          have HO := Lib.hid hown
          clear hown h
          go_wp2
          go_ret
          exact ⟨_, rfl, HO.out, hb⟩
        · have d4 : decide (65536 - x1 < x2) = false := by simp; omega
          have d4' : x2 ≤ 65536 - x1 := by omega
          clear h4
          go_enter Try.func22, Try.ntmps22
          go_wp2_with fail
          refine (HINT.out x1 x2 _ (by simp [okR]; omega) (fun i hi => by have := HN.out; rw [inC, inR, decide_eq_decide]; simp only; omega) (by omega) _ (HB1.out _ _) _ _ (Rd.lit2 rfl (by simp))).mono ?_
          intro e W h
          obtain ⟨v, rfl, hown, hb⟩ := FIN.out _ _ _ _ h
          obtain ⟨A3, c3, rfl, _, _⟩ := own_form hown
          have HO := Lib.hid hown
          clear hown h
          go_wp2
          go_ret
          exact ⟨_, rfl, HO.out, hb⟩
end Go.Proofs.Ytebeaghombjooaa

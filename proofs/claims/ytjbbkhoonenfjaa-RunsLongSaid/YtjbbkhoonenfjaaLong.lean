/- The law RunsLong (printed by lng.py). -/
import Derived.Test.YtjbbkhoonenfjaaLongP
import Derived.Test.YtjbbkhoonenfjaaRunA
import Derived.Test.YtjbbkhoonenfjaaRegX
import Derived.Deep.DeepCutAuto
set_option linter.unusedVariables false
set_option linter.unusedSimpArgs false
namespace Go.Proofs.Ytjbbkhoonenfjaa
open Go.RowKit

theorem new_outS (n : Int) (v : ByteArray) (w : World) (h : n < 1 ∨ 65536 < n) : Calls Try.prog 10 #[.int .i64 n, .string v] w (RetLS w []) := by
  by_cases h1 : n < 1
  · clear h
    go_enter Try.func10, Try.ntmps10
    go_wp2
    exact bodyPost_ret (v := lv none 0 0) (by simp [results, Try.results10, go_sem]) rfl ⟨none, 0, 0, rfl, Rd.nil_, (Below.refl _ _).alloc (Nat.le_refl _) _⟩
  · have g1 : decide (n < 1) = false := by simpa using h1
    have h3 : 65536 < n := by omega
    clear h h1
    go_enter Try.func10, Try.ntmps10
    go_wp2
    exact bodyPost_ret (v := lv none 0 0) (by simp [results, Try.results10, go_sem]) rfl ⟨none, 0, 0, rfl, Rd.nil_, (Below.refl _ _).alloc (Nat.le_refl _) _⟩

set_option maxHeartbeats 1000000 in
theorem longLow (n m : Int) (w : World) (h : n < 0) : Calls Try.prog 3 #[.int .i64 n, .int .i64 m] w fun e w' => e = .returned (.bool true) ∧ Below w.heap.size w w' := by
  have HN := Lib.hid (new_outS n ⟨#[97]⟩ w (by omega))
  have d1 : decide (n < 0) = true := by simpa using h
  clear h
  go_enter Try.func3, Try.ntmps3
  go_wp2_with fail
  refine HN.out.mono ?_
  intro e w1 h
  obtain ⟨A1, c1, rfl, hR1, hb1⟩ := h.open_ 0 rfl
  have HR1 := Lib.hid (hR1.alloc' (.cells #[.slice A1 0 c1] 24) (Nat.le_refl _))
  have HB1 := Lib.hid (Box.alloc_ (w := w1) (cs := #[.slice A1 0 c1]) (e := 24))
  have hbw1 := ext_alloc hb1 (.cells #[.slice A1 0 c1] 24)
  obtain ⟨W0, hW⟩ : ∃ W, w1.alloc (.cells #[.slice A1 0 c1] 24) = W := ⟨_, rfl⟩
  rw [hW] at HR1 HB1 hbw1
  have hs0 : w1.heap.size < W0.heap.size := HB1.out.2.2
  clear h hR1 hb1 HN
  obtain ⟨q0, z0, l0⟩ := HB1.out
  go_wp2_with fail
  try rw [hW]
  clear hW
  refine (awake_any _).mono ?_
  rintro e w5 ⟨rfl, hb5⟩
  have HB5 := Lib.hid (HB1.out.below hb5)
  have HR5 := Lib.hid (HR1.out.below hb5 (by omega))
  have hbw5 := ext_trans hbw1 hb5
  have hs5 := hb5.size
  obtain ⟨q1, z1, l1⟩ := HB5.out
  clear hb5 q0 z0 l0
  go_wp2_with fail
  refine (len_anyS [] A1 0 c1 _ _ HR5.out (by omega) 0 rfl (by omega)).mono ?_
  rintro e w6 ⟨rfl, hb6⟩
  have HB6 := Lib.hid (HB5.out.below hb6)
  have HR6 := Lib.hid (HR5.out.below hb6 (by omega))
  have hbw6 := ext_trans hbw5 hb6
  obtain ⟨q2, z2, l2⟩ := HB6.out
  clear hb6 q1 z1 l1
  go_wp2_with fail
  refine (runs_anyS A1 0 c1 _ [] _ HR6.out (by omega)).mono ?_
  rintro e w7 ⟨v, rfl, hown, hb7⟩
  obtain ⟨A5, c5, hv5, _, _⟩ := own_form hown
  subst hv5
  have hbw7 := ext_trans hbw6 hb7
  clear hown hb7 q2 z2 l2
  go_wp2
  go_ret
  exact ⟨rfl, hbw7⟩

set_option maxHeartbeats 1000000 in
theorem longHigh (n m : Int) (w : World) (h : 65536 < n) : Calls Try.prog 3 #[.int .i64 n, .int .i64 m] w fun e w' => e = .returned (.bool true) ∧ Below w.heap.size w w' := by
  have HN := Lib.hid (new_outS n ⟨#[97]⟩ w (by omega))
  have d1 : decide (n < 0) = false := by simp; omega
  have d2 : decide (65536 < n) = true := by simpa using h
  clear h
  go_enter Try.func3, Try.ntmps3
  go_wp2_with fail
  refine HN.out.mono ?_
  intro e w1 h
  obtain ⟨A1, c1, rfl, hR1, hb1⟩ := h.open_ 0 rfl
  have HR1 := Lib.hid (hR1.alloc' (.cells #[.slice A1 0 c1] 24) (Nat.le_refl _))
  have HB1 := Lib.hid (Box.alloc_ (w := w1) (cs := #[.slice A1 0 c1]) (e := 24))
  have hbw1 := ext_alloc hb1 (.cells #[.slice A1 0 c1] 24)
  obtain ⟨W0, hW⟩ : ∃ W, w1.alloc (.cells #[.slice A1 0 c1] 24) = W := ⟨_, rfl⟩
  rw [hW] at HR1 HB1 hbw1
  have hs0 : w1.heap.size < W0.heap.size := HB1.out.2.2
  clear h hR1 hb1 HN
  obtain ⟨q0, z0, l0⟩ := HB1.out
  go_wp2_with fail
  try rw [hW]
  clear hW
  refine (awake_any _).mono ?_
  rintro e w5 ⟨rfl, hb5⟩
  have HB5 := Lib.hid (HB1.out.below hb5)
  have HR5 := Lib.hid (HR1.out.below hb5 (by omega))
  have hbw5 := ext_trans hbw1 hb5
  have hs5 := hb5.size
  obtain ⟨q1, z1, l1⟩ := HB5.out
  clear hb5 q0 z0 l0
  go_wp2_with fail
  refine (len_anyS [] A1 0 c1 _ _ HR5.out (by omega) 0 rfl (by omega)).mono ?_
  rintro e w6 ⟨rfl, hb6⟩
  have HB6 := Lib.hid (HB5.out.below hb6)
  have HR6 := Lib.hid (HR5.out.below hb6 (by omega))
  have hbw6 := ext_trans hbw5 hb6
  obtain ⟨q2, z2, l2⟩ := HB6.out
  clear hb6 q1 z1 l1
  go_wp2_with fail
  refine (runs_anyS A1 0 c1 _ [] _ HR6.out (by omega)).mono ?_
  rintro e w7 ⟨v, rfl, hown, hb7⟩
  obtain ⟨A5, c5, hv5, _, _⟩ := own_form hown
  subst hv5
  have hbw7 := ext_trans hbw6 hb7
  clear hown hb7 q2 z2 l2
  go_wp2
  go_ret
  exact ⟨rfl, hbw7⟩

set_option maxRecDepth 10000 in
set_option maxHeartbeats 4000000 in
theorem longMid (N q : Nat) (m : Int) (w : World) (hN : N ≤ 65536) (hq : m % 65537 = q) (hq2 : q ≤ 65536) : Calls Try.prog 3 #[.int .i64 N, .int .i64 m] w fun e w' => e = .returned (.bool true) ∧ Below w.heap.size w w' := by
  have HN := Lib.hid (new_anyS N ⟨#[97]⟩ w (by omega))
  obtain ⟨P, hP⟩ : ∃ P, newLS N ⟨#[97]⟩ = P := ⟨_, rfl⟩
  obtain ⟨Q, hQ⟩ : ∃ Q, newLS q ⟨#[98]⟩ = Q := ⟨_, rfl⟩
  obtain ⟨R, hR⟩ : ∃ R, appendLS (newLS N ⟨#[97]⟩) (newLS q ⟨#[98]⟩) = R := ⟨_, rfl⟩
  obtain ⟨r1, r2, r3⟩ := long_plain N q ⟨#[97]⟩ ⟨#[98]⟩ (by decide) hN (by omega) R hR
  have HM := Lib.hid (fun w => mod_eq m 65537 (q : Int) (by omega) (by omega) hq w)
  have HN2 := Lib.hid (fun w => new_anyS q ⟨#[98]⟩ w (by omega))
  have tP := newLS_tot N ⟨#[97]⟩ hN
  have tQ := newLS_tot q ⟨#[98]⟩ (by omega)
  have lP := newLS_le N ⟨#[97]⟩
  have lQ := newLS_le q ⟨#[98]⟩
  rw [hP, hQ] at hR
  rw [hP] at HN tP lP
  rw [hQ] at HN2 tQ lQ
  obtain ⟨pn, hpn⟩ : ∃ k, P.length = k := ⟨_, rfl⟩
  obtain ⟨qn, hqn⟩ : ∃ k, Q.length = k := ⟨_, rfl⟩
  obtain ⟨rn, hrn⟩ : ∃ k, R.length = k := ⟨_, rfl⟩
  rw [hrn] at r3
  rw [hpn] at lP
  rw [hqn] at lQ
  obtain ⟨d, hd⟩ : ∃ d, min q (65536 - N) = d := ⟨_, rfl⟩
  rw [hd] at r1 r3
  have HAP := Lib.hid (fun (A A2 : Option Addr) (c c2 B : Nat) (W : World) (h1 : Rd W B 2 A pn (rnCellsS P)) (h2 : Rd W B 2 A2 qn (rnCellsS Q)) (hB : B ≤ W.heap.size) => append_ownS P Q A A2 pn c qn c2 B W h1 h2 (by omega) (by omega) hB (by omega) (by omega))
  rw [hR] at HAP
  have HLP := Lib.hid (fun (A : Option Addr) (c B : Nat) (W : World) (h : Rd W B 2 A pn (rnCellsS P)) => len_anyS P A pn c B W h (by omega) N tP (by omega))
  obtain ⟨tt, htt⟩ : ∃ tt, N + d = tt := ⟨_, rfl⟩
  have HLR := Lib.hid (fun (A : Option Addr) (c B : Nat) (W : World) (h : Rd W B 2 A rn (rnCellsS R)) => len_anyS R A rn c B W h (by split at r3 <;> split at r3 <;> omega) tt (r1.trans htt) (by omega))
  have HCR := Lib.hid (fun (A : Option Addr) (c B : Nat) (W : World) (h : Rd W B 2 A rn (rnCellsS R)) => count_anyS R A rn c B ⟨#[97]⟩ W h (by split at r3 <;> split at r3 <;> omega) (by omega) N r2)
  have HRU := Lib.hid (fun (A : Option Addr) (c B : Nat) (W : World) (h : Rd W B 2 A rn (rnCellsS R)) => runs_anyS A rn c B R W h (by split at r3 <;> split at r3 <;> omega))
  have HPN := Lib.hid hpn
  have HQN := Lib.hid hqn
  have HRN := Lib.hid hrn
  have d1 : decide ((N : Int) < 0) = false := by simp
  have d2 : decide (65536 < (N : Int)) = false := by simp; omega
  have HR3N := Lib.hid r3
  have HTT := Lib.hid htt
  clear htt
  clear hP hQ hR r1 r2 r3 tP tQ lP lQ hpn hqn hrn
  go_enter Try.func3, Try.ntmps3
  go_wp2_with fail
  refine HN.out.mono ?_
  intro e w1 h
  obtain ⟨A1, c1, rfl, hR1, hb1⟩ := h.open_ pn HPN.out
  have HR1 := Lib.hid (hR1.alloc' (.cells #[.slice A1 pn c1] 24) (Nat.le_refl _))
  have HB1 := Lib.hid (Box.alloc_ (w := w1) (cs := #[.slice A1 pn c1]) (e := 24))
  have hbw1 := ext_alloc hb1 (.cells #[.slice A1 pn c1] 24)
  obtain ⟨W0, hW⟩ : ∃ W, w1.alloc (.cells #[.slice A1 pn c1] 24) = W := ⟨_, rfl⟩
  rw [hW] at HR1 HB1 hbw1
  have hs0 : w1.heap.size < W0.heap.size := HB1.out.2.2
  clear h hR1 hb1 HN
  go_wp2_with fail
  try rw [hW]
  clear hW
  refine (HM.out _).mono ?_
  rintro e w2 ⟨rfl, rfl⟩
  go_upto_region 5 with fail
  go_cut [6] (fun v6 x => ∃ (g6 : Nat) (A2 : Option Addr) (c2 : Nat), v6 = .pointer (some ⟨g6, 0, none⟩) ∧ Box x g6 #[.slice A2 rn c2] ∧ Rd x x.heap.size 2 A2 rn (rnCellsS R) ∧ Below W0.heap.size W0 x)
  case first =>
    have HBW := Lib.hid (below_drew (Below.refl W0.heap.size W0))
    have HRX := Lib.hid (show Rd W0.drew w1.heap.size 2 A1 pn (rnCellsS P) from HR1.out)
    have hsx : w1.heap.size < W0.drew.heap.size := hs0
    have y0 : W0.drew.cell? ⟨w1.heap.size, 0, none⟩ = some (.slice A1 pn c1) := HB1.out.drew.1 0
    have HPZ := Lib.hid (rfl : 0 = 0)
    refine rgx_start (by kernel_rfl) ?_
    revert HBW HRX hsx y0
    generalize W0.drew = x0
    intro HBW HRX hsx y0
    refine rgx_t (v := ?_) (some 31) 0 (by kernel_rfl) rfl rfl (.inl ⟨by rfl, fun w' q => ?_⟩) ?_
    rotate_left
    · go_simp <;> with_reducible rfl
    try simp only [Act.put, List.setIfInBounds_toArray, List.set_cons_zero, List.set_cons_succ]
    refine rgx_t (v := ?_) (some 32) 1 (by kernel_rfl) rfl rfl (.inl ⟨by rfl, fun w' q => ?_⟩) ?_
    rotate_left
    · go_simp <;> with_reducible rfl
    try simp only [Act.put, List.setIfInBounds_toArray, List.set_cons_zero, List.set_cons_succ]
    refine rgx_2 2 4 (by kernel_rfl) ?_ ?_
    · refine ⟨_, rfl, by rfl, fun K hK => ?_⟩
      go_simp
      refine (HN2.out _).mono ?_
      intro e x1 h
      obtain ⟨A2, c2, rfl, hR2, hb⟩ := h.open_ qn HQN.out
      have HR2 := Lib.hid hR2
      have hBW := ext_trans HBW.out hb
      have HRX := Lib.hid (HRX.out.below hb (by omega))
      try have HB6 := Lib.hid (HB6.out.below hb)
      try have hg6 := HB6.out.2.2
      have HBW := Lib.hid hBW
      have hsx : w1.heap.size < x1.heap.size := by have := hb.size; omega
      refine hK (fun b => False) _ _ (fun b h => .inl h) (Mem.of_below hb) ?_
      clear hb hR2 h hBW
      clear hK K
      try simp only [Act.put, List.setIfInBounds_toArray, List.set_cons_zero, List.set_cons_succ]
      refine rgx_2 3 4 (by kernel_rfl) ?_ ?_
      · refine ⟨_, rfl, by rfl, fun K hK => ?_⟩
        go_simp
        refine (HAP.out _ _ _ _ _ _ (HRX.out.more (by omega)) HR2.out (Nat.le_refl _)).mono ?_
        intro e x2 h
        obtain ⟨A3, c3, rfl, hR3, hb, hq⟩ := h.open_ rn HRN.out
        try have HNE := Lib.hid (fun (b off : Nat) (hA : A3 = some ⟨b, off, none⟩) => (show b ≠ g6 from by have := hq b off hA; omega))
        have HQ := Lib.hid (fun (b off : Nat) (hA : A3 = some ⟨b, off, none⟩) => (hq b off hA).2)
        have HR3 := Lib.hid hR3
        have hBW := ext_trans HBW.out hb
        try have HB6 := Lib.hid (HB6.out.below hb)
        try have hg6 := HB6.out.2.2
        have HBW := Lib.hid hBW
        have HRX := Lib.hid (HRX.out.below hb (by omega))
        have hsx : w1.heap.size < x2.heap.size := by have := hb.size; omega
        refine hK (fun b => False) _ _ (fun b h => .inl h) (Mem.of_below hb) ?_
        clear hb hR3 h hBW hq
        clear hK K
        try simp only [Act.put, List.setIfInBounds_toArray, List.set_cons_zero, List.set_cons_succ]
        refine rgx_1 4 (by kernel_rfl) ?_
        refine ⟨_, rfl, by rfl, fun K hK => ?_⟩
        go_simp
        obtain ⟨g6, hg⟩ : ∃ g, x2.heap.size = g := ⟨_, rfl⟩
        obtain ⟨x3, hW⟩ : ∃ W, x2.alloc (.cells #[.slice none 0 0] 24) = W := ⟨_, rfl⟩
        have hb : Below x2.heap.size x2 x3 := hW ▸ (Below.refl _ _).alloc (Nat.le_refl _) _
        have HB6 := Lib.hid (show Box x3 g6 #[.slice none 0 0] from hW ▸ hg ▸ Box.alloc_)
        rw [hW, hg]
        have m6 : W0.heap.size ≤ g6 := hg ▸ HBW.out.size
        have n6 : x2.heap.size ≤ g6 := Nat.le_of_eq hg
        try have HNE := Lib.hid (fun (b off : Nat) (hA : A3 = some ⟨b, off, none⟩) => (show b ≠ g6 from by have := HQ.out b off hA; omega))
        have hBW := ext_trans HBW.out hb
        have HBW := Lib.hid hBW
        have HRX := Lib.hid (HRX.out.below hb (by omega))
        try have HR2 := Lib.hid ((HR2.out.below hb (Nat.le_refl _)).more hb.size)
        try have HR3 := Lib.hid ((HR3.out.below hb (Nat.le_refl _)).more hb.size)
        have hsx : w1.heap.size < x3.heap.size := by have := hb.size; omega
        have hg6 := HB6.out.2.2
        refine hK (fun b => False ∨ b = g6) _ _ (fun b h => by first | exact .inl h | (simp only [false_or] at h ⊢; omega)) (Mem.of_below hb) ?_
        clear hb hW hg hBW
        clear hK K
        try simp only [Act.put, List.setIfInBounds_toArray, List.set_cons_zero, List.set_cons_succ]
        refine rgx_1 5 (by kernel_rfl) ?_
        refine ⟨_, rfl, by rfl, fun K hK => ?_⟩
        obtain ⟨qo, zo, lo⟩ := HB6.out
        go_simp
        have hB := HB6.out.set (k := 0) (v := .slice A3 rn c3) (cs' := #[.slice A3 rn c3]) (by simp) rfl
        have hm : Mem (fun b => False ∨ b = g6) x3 (x3.setCell ⟨g6, 0, none⟩ (.slice A3 rn c3)) := (Mem.refl _ _).of_set (by simp)
        have hBW := HBW.out.setCell (p := ⟨g6, 0, none⟩) m6 (.slice A3 rn c3)
        have hR6 : Rd (x3.setCell ⟨g6, 0, none⟩ (.slice A3 rn c3)) (x3.setCell ⟨g6, 0, none⟩ (.slice A3 rn c3)).heap.size 2 A3 rn (rnCellsS R) := (HR3.out.off_row (one_set (one_refl x3 g6) 0 (.slice A3 rn c3)) (Nat.le_refl _) (fun b off hA e => by injection e with e; exact HNE.out b off hA e)).more (one_set (one_refl x3 g6) 0 (.slice A3 rn c3)).size
        obtain ⟨x4, hW⟩ : ∃ W, x3.setCell ⟨g6, 0, none⟩ (.slice A3 rn c3) = W := ⟨_, rfl⟩
        rw [hW] at hB hm hBW hR6 ⊢
        have HBF := Lib.hid hB
        have HBW := Lib.hid hBW
        have HRF := Lib.hid hR6
        refine hK (fun b => False ∨ b = g6) _ _ (fun b h => .inl h) hm ?_
        clear hm hW hB hBW hR6 qo zo lo
        clear hK K
        try simp only [Act.put, List.setIfInBounds_toArray, List.set_cons_zero, List.set_cons_succ]
        refine rgx_d (by kernel_rfl) ?_
        go_wp2_with fail
        go_meet
        case rel => exact ⟨g6, A3, c3, rfl, HBF.out, HRF.out, HBW.out⟩
      · refine ⟨_, rfl, by rfl, fun K hK => ?_⟩
        go_simp
        obtain ⟨g6, hg⟩ : ∃ g, x1.heap.size = g := ⟨_, rfl⟩
        obtain ⟨x2, hW⟩ : ∃ W, x1.alloc (.cells #[.slice none 0 0] 24) = W := ⟨_, rfl⟩
        have hb : Below x1.heap.size x1 x2 := hW ▸ (Below.refl _ _).alloc (Nat.le_refl _) _
        have HB6 := Lib.hid (show Box x2 g6 #[.slice none 0 0] from hW ▸ hg ▸ Box.alloc_)
        rw [hW, hg]
        have m6 : W0.heap.size ≤ g6 := hg ▸ HBW.out.size
        have n6 : x1.heap.size ≤ g6 := Nat.le_of_eq hg
        try have HNE := Lib.hid (fun (b off : Nat) (hA : A3 = some ⟨b, off, none⟩) => (show b ≠ g6 from by have := HQ.out b off hA; omega))
        have hBW := ext_trans HBW.out hb
        have HBW := Lib.hid hBW
        have HRX := Lib.hid (HRX.out.below hb (by omega))
        try have HR2 := Lib.hid ((HR2.out.below hb (Nat.le_refl _)).more hb.size)
        try have HR3 := Lib.hid ((HR3.out.below hb (Nat.le_refl _)).more hb.size)
        have hsx : w1.heap.size < x2.heap.size := by have := hb.size; omega
        have hg6 := HB6.out.2.2
        refine hK (fun b => False ∨ b = g6) _ _ (fun b h => by first | exact .inl h | (simp only [false_or] at h ⊢; omega)) (Mem.of_below hb) ?_
        clear hb hW hg hBW
        clear hK K
        try simp only [Act.put, List.setIfInBounds_toArray, List.set_cons_zero, List.set_cons_succ]
        refine rgx_1 3 (by kernel_rfl) ?_
        refine ⟨_, rfl, by rfl, fun K hK => ?_⟩
        go_simp
        refine (HAP.out _ _ _ _ _ _ (HRX.out.more (by omega)) HR2.out (Nat.le_refl _)).mono ?_
        intro e x3 h
        obtain ⟨A3, c3, rfl, hR3, hb, hq⟩ := h.open_ rn HRN.out
        try have HNE := Lib.hid (fun (b off : Nat) (hA : A3 = some ⟨b, off, none⟩) => (show b ≠ g6 from by have := hq b off hA; omega))
        have HQ := Lib.hid (fun (b off : Nat) (hA : A3 = some ⟨b, off, none⟩) => (hq b off hA).2)
        have HR3 := Lib.hid hR3
        have hBW := ext_trans HBW.out hb
        try have HB6 := Lib.hid (HB6.out.below hb)
        try have hg6 := HB6.out.2.2
        have HBW := Lib.hid hBW
        have HRX := Lib.hid (HRX.out.below hb (by omega))
        have hsx : w1.heap.size < x3.heap.size := by have := hb.size; omega
        refine hK (fun b => False ∨ b = g6) _ _ (fun b h => .inl h) (Mem.of_below hb) ?_
        clear hb hR3 h hBW hq
        clear hK K
        try simp only [Act.put, List.setIfInBounds_toArray, List.set_cons_zero, List.set_cons_succ]
        refine rgx_1 5 (by kernel_rfl) ?_
        refine ⟨_, rfl, by rfl, fun K hK => ?_⟩
        obtain ⟨qo, zo, lo⟩ := HB6.out
        go_simp
        have hB := HB6.out.set (k := 0) (v := .slice A3 rn c3) (cs' := #[.slice A3 rn c3]) (by simp) rfl
        have hm : Mem (fun b => False ∨ b = g6) x3 (x3.setCell ⟨g6, 0, none⟩ (.slice A3 rn c3)) := (Mem.refl _ _).of_set (by simp)
        have hBW := HBW.out.setCell (p := ⟨g6, 0, none⟩) m6 (.slice A3 rn c3)
        have hR6 : Rd (x3.setCell ⟨g6, 0, none⟩ (.slice A3 rn c3)) (x3.setCell ⟨g6, 0, none⟩ (.slice A3 rn c3)).heap.size 2 A3 rn (rnCellsS R) := (HR3.out.off_row (one_set (one_refl x3 g6) 0 (.slice A3 rn c3)) (Nat.le_refl _) (fun b off hA e => by injection e with e; exact HNE.out b off hA e)).more (one_set (one_refl x3 g6) 0 (.slice A3 rn c3)).size
        obtain ⟨x4, hW⟩ : ∃ W, x3.setCell ⟨g6, 0, none⟩ (.slice A3 rn c3) = W := ⟨_, rfl⟩
        rw [hW] at hB hm hBW hR6 ⊢
        have HBF := Lib.hid hB
        have HBW := Lib.hid hBW
        have HRF := Lib.hid hR6
        refine hK (fun b => False ∨ b = g6) _ _ (fun b h => .inl h) hm ?_
        clear hm hW hB hBW hR6 qo zo lo
        clear hK K
        try simp only [Act.put, List.setIfInBounds_toArray, List.set_cons_zero, List.set_cons_succ]
        refine rgx_d (by kernel_rfl) ?_
        go_wp2_with fail
        go_meet
        case rel => exact ⟨g6, A3, c3, rfl, HBF.out, HRF.out, HBW.out⟩
    · refine ⟨_, rfl, by rfl, fun K hK => ?_⟩
      go_simp
      obtain ⟨g6, hg⟩ : ∃ g, x0.heap.size = g := ⟨_, rfl⟩
      obtain ⟨x1, hW⟩ : ∃ W, x0.alloc (.cells #[.slice none 0 0] 24) = W := ⟨_, rfl⟩
      have hb : Below x0.heap.size x0 x1 := hW ▸ (Below.refl _ _).alloc (Nat.le_refl _) _
      have HB6 := Lib.hid (show Box x1 g6 #[.slice none 0 0] from hW ▸ hg ▸ Box.alloc_)
      rw [hW, hg]
      have m6 : W0.heap.size ≤ g6 := hg ▸ HBW.out.size
      have n6 : x0.heap.size ≤ g6 := Nat.le_of_eq hg
      try have HNE := Lib.hid (fun (b off : Nat) (hA : A3 = some ⟨b, off, none⟩) => (show b ≠ g6 from by have := HQ.out b off hA; omega))
      have hBW := ext_trans HBW.out hb
      have HBW := Lib.hid hBW
      have HRX := Lib.hid (HRX.out.below hb (by omega))
      try have HR2 := Lib.hid ((HR2.out.below hb (Nat.le_refl _)).more hb.size)
      try have HR3 := Lib.hid ((HR3.out.below hb (Nat.le_refl _)).more hb.size)
      have hsx : w1.heap.size < x1.heap.size := by have := hb.size; omega
      have hg6 := HB6.out.2.2
      refine hK (fun b => False ∨ b = g6) _ _ (fun b h => by first | exact .inl h | (simp only [false_or] at h ⊢; omega)) (Mem.of_below hb) ?_
      clear hb hW hg hBW
      clear hK K
      try simp only [Act.put, List.setIfInBounds_toArray, List.set_cons_zero, List.set_cons_succ]
      refine rgx_1 2 (by kernel_rfl) ?_
      refine ⟨_, rfl, by rfl, fun K hK => ?_⟩
      go_simp
      refine (HN2.out _).mono ?_
      intro e x2 h
      obtain ⟨A2, c2, rfl, hR2, hb⟩ := h.open_ qn HQN.out
      have HR2 := Lib.hid hR2
      have hBW := ext_trans HBW.out hb
      have HRX := Lib.hid (HRX.out.below hb (by omega))
      try have HB6 := Lib.hid (HB6.out.below hb)
      try have hg6 := HB6.out.2.2
      have HBW := Lib.hid hBW
      have hsx : w1.heap.size < x2.heap.size := by have := hb.size; omega
      refine hK (fun b => False ∨ b = g6) _ _ (fun b h => .inl h) (Mem.of_below hb) ?_
      clear hb hR2 h hBW
      clear hK K
      try simp only [Act.put, List.setIfInBounds_toArray, List.set_cons_zero, List.set_cons_succ]
      refine rgx_1 3 (by kernel_rfl) ?_
      refine ⟨_, rfl, by rfl, fun K hK => ?_⟩
      go_simp
      refine (HAP.out _ _ _ _ _ _ (HRX.out.more (by omega)) HR2.out (Nat.le_refl _)).mono ?_
      intro e x3 h
      obtain ⟨A3, c3, rfl, hR3, hb, hq⟩ := h.open_ rn HRN.out
      try have HNE := Lib.hid (fun (b off : Nat) (hA : A3 = some ⟨b, off, none⟩) => (show b ≠ g6 from by have := hq b off hA; omega))
      have HQ := Lib.hid (fun (b off : Nat) (hA : A3 = some ⟨b, off, none⟩) => (hq b off hA).2)
      have HR3 := Lib.hid hR3
      have hBW := ext_trans HBW.out hb
      try have HB6 := Lib.hid (HB6.out.below hb)
      try have hg6 := HB6.out.2.2
      have HBW := Lib.hid hBW
      have HRX := Lib.hid (HRX.out.below hb (by omega))
      have hsx : w1.heap.size < x3.heap.size := by have := hb.size; omega
      refine hK (fun b => False ∨ b = g6) _ _ (fun b h => .inl h) (Mem.of_below hb) ?_
      clear hb hR3 h hBW hq
      clear hK K
      try simp only [Act.put, List.setIfInBounds_toArray, List.set_cons_zero, List.set_cons_succ]
      refine rgx_1 5 (by kernel_rfl) ?_
      refine ⟨_, rfl, by rfl, fun K hK => ?_⟩
      obtain ⟨qo, zo, lo⟩ := HB6.out
      go_simp
      have hB := HB6.out.set (k := 0) (v := .slice A3 rn c3) (cs' := #[.slice A3 rn c3]) (by simp) rfl
      have hm : Mem (fun b => False ∨ b = g6) x3 (x3.setCell ⟨g6, 0, none⟩ (.slice A3 rn c3)) := (Mem.refl _ _).of_set (by simp)
      have hBW := HBW.out.setCell (p := ⟨g6, 0, none⟩) m6 (.slice A3 rn c3)
      have hR6 : Rd (x3.setCell ⟨g6, 0, none⟩ (.slice A3 rn c3)) (x3.setCell ⟨g6, 0, none⟩ (.slice A3 rn c3)).heap.size 2 A3 rn (rnCellsS R) := (HR3.out.off_row (one_set (one_refl x3 g6) 0 (.slice A3 rn c3)) (Nat.le_refl _) (fun b off hA e => by injection e with e; exact HNE.out b off hA e)).more (one_set (one_refl x3 g6) 0 (.slice A3 rn c3)).size
      obtain ⟨x4, hW⟩ : ∃ W, x3.setCell ⟨g6, 0, none⟩ (.slice A3 rn c3) = W := ⟨_, rfl⟩
      rw [hW] at hB hm hBW hR6 ⊢
      have HBF := Lib.hid hB
      have HBW := Lib.hid hBW
      have HRF := Lib.hid hR6
      refine hK (fun b => False ∨ b = g6) _ _ (fun b h => .inl h) hm ?_
      clear hm hW hB hBW hR6 qo zo lo
      clear hK K
      try simp only [Act.put, List.setIfInBounds_toArray, List.set_cons_zero, List.set_cons_succ]
      refine rgx_d (by kernel_rfl) ?_
      go_wp2_with fail
      go_meet
      case rel => exact ⟨g6, A3, c3, rfl, HBF.out, HRF.out, HBW.out⟩
  case rest =>
    obtain ⟨g6, A2, c2, rfl, hB6, hR6, hbx⟩ := hcut
    have HX0 := Lib.hid (HB1.out.below hbx)
    have HP0 := Lib.hid (HR1.out.below hbx (by omega))
    have HY0 := Lib.hid hB6
    have hbx0 := ext_trans hbw1 hbx
    have hsz := hbx.size
    have HRR0 := Lib.hid hR6
    clear hbx hB6 hR6
    obtain ⟨q2, z2, l2⟩ := HY0.out
    go_wp2_with fail
    refine (HRU.out _ _ _ _ HRR0.out).mono ?_
    rintro e x1 ⟨v, rfl, hown, hb5⟩
    obtain ⟨A5, c5, hv5, _, _⟩ := own_form hown
    subst hv5
    have HX1 := Lib.hid (HX0.out.below hb5)
    have HY1 := Lib.hid (HY0.out.below hb5)
    have HP1 := Lib.hid (HP0.out.below hb5 (by omega))
    have HRR1 := Lib.hid (HRR0.out.below hb5 (Nat.le_refl _))
    have hbx1 := ext_trans hbx0 hb5
    have hs1 := hb5.size
    clear hb5 hown q2 z2 l2
    have k1 : IntKind.i64.wrap (65536 - (N : Int)) = 65536 - (N : Int) := IntWalk.i64_in _ ⟨by omega, by omega⟩
    have k2 : IntKind.i64.wrap ((N : Int) + (q : Int)) = (N : Int) + (q : Int) := IntWalk.i64_in _ ⟨by omega, by omega⟩
    have HDD := Lib.hid hd
    clear hd
    by_cases h1 : 0 < N
    · by_cases h2 : 0 < d
      · by_cases h3 : (q : Int) ≤ 65536 - (N : Int)
        · have hd := HDD.out
          have e1 : decide (0 < (N : Int)) = true := by simp; omega
          have e1n : decide (0 < N) = true := by simp; omega
          have hrn : rn = 2 := by have := HR3N.out; rw [if_pos h1, if_pos h2] at this; omega
          have e2 : decide (0 < (q : Int)) = true := by simp; omega
          have e2n : decide (0 < q) = true := by simp; omega
          have h5 : ¬ 65536 - (N : Int) < (q : Int) := by omega
          have h4 : ¬ 65536 < (N : Int) + (q : Int) := by omega
          have h6 : decide (65536 - (N : Int) < (q : Int)) = false := by simp; omega
          have h7 : decide (65536 < (N : Int) + (q : Int)) = false := by simp; omega
          have e3 : ((tt : Int) == (N : Int) + (q : Int)) = true := by have := HTT.out; simp; omega
          subst hrn
          clear h1 h2 h3 hd
          go_wp2_with fail
          refine (awake_any _).mono ?_
          rintro e x2 ⟨rfl, hb5⟩
          have HX2 := Lib.hid (HX1.out.below hb5)
          have HY2 := Lib.hid (HY1.out.below hb5)
          have HP2 := Lib.hid (HP1.out.below hb5 (by omega))
          have HRR2 := Lib.hid (HRR1.out.below hb5 (by omega))
          have hbw2 := ext_trans hbx1 hb5
          have hs2 := hb5.size
          obtain ⟨q1, z1, l1⟩ := HX2.out
          obtain ⟨q2, z2, l2⟩ := HY2.out
          clear hb5
          go_wp2_with fail
          refine (HLP.out _ _ _ _ HP2.out).mono ?_
          rintro e x3 ⟨rfl, hb5⟩
          have HY3 := Lib.hid (HY2.out.below hb5)
          have HRR3 := Lib.hid (HRR2.out.below hb5 (by omega))
          have hbw3 := ext_trans hbw2 hb5
          have hs3 := hb5.size
          clear hb5 q1 z1 l1 q2 z2 l2
          obtain ⟨q2, z2, l2⟩ := HY3.out
          go_wp2_with fail
          refine (HLR.out _ _ _ _ HRR3.out).mono ?_
          rintro e x4 ⟨rfl, hb5⟩
          have HY4 := Lib.hid (HY3.out.below hb5)
          have HRR4 := Lib.hid (HRR3.out.below hb5 (by omega))
          have hbw4 := ext_trans hbw3 hb5
          have hs4 := hb5.size
          clear hb5 q2 z2 l2
          obtain ⟨q2, z2, l2⟩ := HY4.out
          go_wp2_with fail
          refine (HCR.out _ _ _ _ HRR4.out).mono ?_
          rintro e x5 ⟨rfl, hb5⟩
          have hbw5 := ext_trans hbw4 hb5
          clear hb5
          go_wp2
          go_ret
          exact ⟨rfl, hbw5⟩
        · have hd := HDD.out
          have e1 : decide (0 < (N : Int)) = true := by simp; omega
          have e1n : decide (0 < N) = true := by simp; omega
          have hrn : rn = 2 := by have := HR3N.out; rw [if_pos h1, if_pos h2] at this; omega
          have e2 : decide (0 < 65536 - (N : Int)) = true := by simp; omega
          have e2n : decide (N < 65536) = true := by simp; omega
          have e2m : decide ((N : Int) < 65536) = true := by simp; omega
          have h5 : 65536 - (N : Int) < (q : Int) := by omega
          have h4 : 65536 < (N : Int) + (q : Int) := by omega
          have h6 : decide (65536 - (N : Int) < (q : Int)) = true := by simp; omega
          have h7 : decide (65536 < (N : Int) + (q : Int)) = true := by simp; omega
          have e3 : ((tt : Int) == 65536) = true := by have := HTT.out; simp; omega
          subst hrn
          clear h1 h2 h3 hd
          go_wp2_with fail
          refine (awake_any _).mono ?_
          rintro e x2 ⟨rfl, hb5⟩
          have HX2 := Lib.hid (HX1.out.below hb5)
          have HY2 := Lib.hid (HY1.out.below hb5)
          have HP2 := Lib.hid (HP1.out.below hb5 (by omega))
          have HRR2 := Lib.hid (HRR1.out.below hb5 (by omega))
          have hbw2 := ext_trans hbx1 hb5
          have hs2 := hb5.size
          obtain ⟨q1, z1, l1⟩ := HX2.out
          obtain ⟨q2, z2, l2⟩ := HY2.out
          clear hb5
          go_wp2_with fail
          refine (HLP.out _ _ _ _ HP2.out).mono ?_
          rintro e x3 ⟨rfl, hb5⟩
          have HY3 := Lib.hid (HY2.out.below hb5)
          have HRR3 := Lib.hid (HRR2.out.below hb5 (by omega))
          have hbw3 := ext_trans hbw2 hb5
          have hs3 := hb5.size
          clear hb5 q1 z1 l1 q2 z2 l2
          obtain ⟨q2, z2, l2⟩ := HY3.out
          go_wp2_with fail
          refine (HLR.out _ _ _ _ HRR3.out).mono ?_
          rintro e x4 ⟨rfl, hb5⟩
          have HY4 := Lib.hid (HY3.out.below hb5)
          have HRR4 := Lib.hid (HRR3.out.below hb5 (by omega))
          have hbw4 := ext_trans hbw3 hb5
          have hs4 := hb5.size
          clear hb5 q2 z2 l2
          obtain ⟨q2, z2, l2⟩ := HY4.out
          go_wp2_with fail
          refine (HCR.out _ _ _ _ HRR4.out).mono ?_
          rintro e x5 ⟨rfl, hb5⟩
          have hbw5 := ext_trans hbw4 hb5
          clear hb5
          go_wp2
          go_ret
          exact ⟨rfl, hbw5⟩
      · by_cases h3 : (q : Int) ≤ 65536 - (N : Int)
        · have hd := HDD.out
          have e1 : decide (0 < (N : Int)) = true := by simp; omega
          have e1n : decide (0 < N) = true := by simp; omega
          have hrn : rn = 1 := by have := HR3N.out; rw [if_pos h1, if_neg h2] at this; omega
          have e2 : decide (0 < (q : Int)) = false := by simp; omega
          have e2n : decide (0 < q) = false := by simp; omega
          have h5 : ¬ 65536 - (N : Int) < (q : Int) := by omega
          have h4 : ¬ 65536 < (N : Int) + (q : Int) := by omega
          have h6 : decide (65536 - (N : Int) < (q : Int)) = false := by simp; omega
          have h7 : decide (65536 < (N : Int) + (q : Int)) = false := by simp; omega
          have e3 : ((tt : Int) == (N : Int) + (q : Int)) = true := by have := HTT.out; simp; omega
          subst hrn
          clear h1 h2 h3 hd
          go_wp2_with fail
          refine (awake_any _).mono ?_
          rintro e x2 ⟨rfl, hb5⟩
          have HX2 := Lib.hid (HX1.out.below hb5)
          have HY2 := Lib.hid (HY1.out.below hb5)
          have HP2 := Lib.hid (HP1.out.below hb5 (by omega))
          have HRR2 := Lib.hid (HRR1.out.below hb5 (by omega))
          have hbw2 := ext_trans hbx1 hb5
          have hs2 := hb5.size
          obtain ⟨q1, z1, l1⟩ := HX2.out
          obtain ⟨q2, z2, l2⟩ := HY2.out
          clear hb5
          go_wp2_with fail
          refine (HLP.out _ _ _ _ HP2.out).mono ?_
          rintro e x3 ⟨rfl, hb5⟩
          have HY3 := Lib.hid (HY2.out.below hb5)
          have HRR3 := Lib.hid (HRR2.out.below hb5 (by omega))
          have hbw3 := ext_trans hbw2 hb5
          have hs3 := hb5.size
          clear hb5 q1 z1 l1 q2 z2 l2
          obtain ⟨q2, z2, l2⟩ := HY3.out
          go_wp2_with fail
          refine (HLR.out _ _ _ _ HRR3.out).mono ?_
          rintro e x4 ⟨rfl, hb5⟩
          have HY4 := Lib.hid (HY3.out.below hb5)
          have HRR4 := Lib.hid (HRR3.out.below hb5 (by omega))
          have hbw4 := ext_trans hbw3 hb5
          have hs4 := hb5.size
          clear hb5 q2 z2 l2
          obtain ⟨q2, z2, l2⟩ := HY4.out
          go_wp2_with fail
          refine (HCR.out _ _ _ _ HRR4.out).mono ?_
          rintro e x5 ⟨rfl, hb5⟩
          have hbw5 := ext_trans hbw4 hb5
          clear hb5
          go_wp2
          go_ret
          exact ⟨rfl, hbw5⟩
        · have hd := HDD.out
          have e1 : decide (0 < (N : Int)) = true := by simp; omega
          have e1n : decide (0 < N) = true := by simp; omega
          have hrn : rn = 1 := by have := HR3N.out; rw [if_pos h1, if_neg h2] at this; omega
          have e2 : decide (0 < 65536 - (N : Int)) = false := by simp; omega
          have e2n : decide (N < 65536) = false := by simp; omega
          have e2m : decide ((N : Int) < 65536) = false := by simp; omega
          have h5 : 65536 - (N : Int) < (q : Int) := by omega
          have h4 : 65536 < (N : Int) + (q : Int) := by omega
          have h6 : decide (65536 - (N : Int) < (q : Int)) = true := by simp; omega
          have h7 : decide (65536 < (N : Int) + (q : Int)) = true := by simp; omega
          have e3 : ((tt : Int) == 65536) = true := by have := HTT.out; simp; omega
          subst hrn
          clear h1 h2 h3 hd
          go_wp2_with fail
          refine (awake_any _).mono ?_
          rintro e x2 ⟨rfl, hb5⟩
          have HX2 := Lib.hid (HX1.out.below hb5)
          have HY2 := Lib.hid (HY1.out.below hb5)
          have HP2 := Lib.hid (HP1.out.below hb5 (by omega))
          have HRR2 := Lib.hid (HRR1.out.below hb5 (by omega))
          have hbw2 := ext_trans hbx1 hb5
          have hs2 := hb5.size
          obtain ⟨q1, z1, l1⟩ := HX2.out
          obtain ⟨q2, z2, l2⟩ := HY2.out
          clear hb5
          go_wp2_with fail
          refine (HLP.out _ _ _ _ HP2.out).mono ?_
          rintro e x3 ⟨rfl, hb5⟩
          have HY3 := Lib.hid (HY2.out.below hb5)
          have HRR3 := Lib.hid (HRR2.out.below hb5 (by omega))
          have hbw3 := ext_trans hbw2 hb5
          have hs3 := hb5.size
          clear hb5 q1 z1 l1 q2 z2 l2
          obtain ⟨q2, z2, l2⟩ := HY3.out
          go_wp2_with fail
          refine (HLR.out _ _ _ _ HRR3.out).mono ?_
          rintro e x4 ⟨rfl, hb5⟩
          have HY4 := Lib.hid (HY3.out.below hb5)
          have HRR4 := Lib.hid (HRR3.out.below hb5 (by omega))
          have hbw4 := ext_trans hbw3 hb5
          have hs4 := hb5.size
          clear hb5 q2 z2 l2
          obtain ⟨q2, z2, l2⟩ := HY4.out
          go_wp2_with fail
          refine (HCR.out _ _ _ _ HRR4.out).mono ?_
          rintro e x5 ⟨rfl, hb5⟩
          have hbw5 := ext_trans hbw4 hb5
          clear hb5
          go_wp2
          go_ret
          exact ⟨rfl, hbw5⟩
    · by_cases h2 : 0 < d
      · by_cases h3 : (q : Int) ≤ 65536 - (N : Int)
        · have hd := HDD.out
          have e1 : decide (0 < (N : Int)) = false := by simp; omega
          have e1n : decide (0 < N) = false := by simp; omega
          have hrn : rn = 1 := by have := HR3N.out; rw [if_neg h1, if_pos h2] at this; omega
          have e2 : decide (0 < (q : Int)) = true := by simp; omega
          have e2n : decide (0 < q) = true := by simp; omega
          have h5 : ¬ 65536 - (N : Int) < (q : Int) := by omega
          have h4 : ¬ 65536 < (N : Int) + (q : Int) := by omega
          have h6 : decide (65536 - (N : Int) < (q : Int)) = false := by simp; omega
          have h7 : decide (65536 < (N : Int) + (q : Int)) = false := by simp; omega
          have e3 : ((tt : Int) == (N : Int) + (q : Int)) = true := by have := HTT.out; simp; omega
          subst hrn
          clear h1 h2 h3 hd
          go_wp2_with fail
          refine (awake_any _).mono ?_
          rintro e x2 ⟨rfl, hb5⟩
          have HX2 := Lib.hid (HX1.out.below hb5)
          have HY2 := Lib.hid (HY1.out.below hb5)
          have HP2 := Lib.hid (HP1.out.below hb5 (by omega))
          have HRR2 := Lib.hid (HRR1.out.below hb5 (by omega))
          have hbw2 := ext_trans hbx1 hb5
          have hs2 := hb5.size
          obtain ⟨q1, z1, l1⟩ := HX2.out
          obtain ⟨q2, z2, l2⟩ := HY2.out
          clear hb5
          go_wp2_with fail
          refine (HLP.out _ _ _ _ HP2.out).mono ?_
          rintro e x3 ⟨rfl, hb5⟩
          have HY3 := Lib.hid (HY2.out.below hb5)
          have HRR3 := Lib.hid (HRR2.out.below hb5 (by omega))
          have hbw3 := ext_trans hbw2 hb5
          have hs3 := hb5.size
          clear hb5 q1 z1 l1 q2 z2 l2
          obtain ⟨q2, z2, l2⟩ := HY3.out
          go_wp2_with fail
          refine (HLR.out _ _ _ _ HRR3.out).mono ?_
          rintro e x4 ⟨rfl, hb5⟩
          have HY4 := Lib.hid (HY3.out.below hb5)
          have HRR4 := Lib.hid (HRR3.out.below hb5 (by omega))
          have hbw4 := ext_trans hbw3 hb5
          have hs4 := hb5.size
          clear hb5 q2 z2 l2
          obtain ⟨q2, z2, l2⟩ := HY4.out
          go_wp2_with fail
          refine (HCR.out _ _ _ _ HRR4.out).mono ?_
          rintro e x5 ⟨rfl, hb5⟩
          have hbw5 := ext_trans hbw4 hb5
          clear hb5
          go_wp2
          go_ret
          exact ⟨rfl, hbw5⟩
        · have hd := HDD.out
          have e1 : decide (0 < (N : Int)) = false := by simp; omega
          have e1n : decide (0 < N) = false := by simp; omega
          have hrn : rn = 1 := by have := HR3N.out; rw [if_neg h1, if_pos h2] at this; omega
          have e2 : decide (0 < 65536 - (N : Int)) = true := by simp; omega
          have e2n : decide (N < 65536) = true := by simp; omega
          have e2m : decide ((N : Int) < 65536) = true := by simp; omega
          have h5 : 65536 - (N : Int) < (q : Int) := by omega
          have h4 : 65536 < (N : Int) + (q : Int) := by omega
          have h6 : decide (65536 - (N : Int) < (q : Int)) = true := by simp; omega
          have h7 : decide (65536 < (N : Int) + (q : Int)) = true := by simp; omega
          have e3 : ((tt : Int) == 65536) = true := by have := HTT.out; simp; omega
          subst hrn
          clear h1 h2 h3 hd
          go_wp2_with fail
          refine (awake_any _).mono ?_
          rintro e x2 ⟨rfl, hb5⟩
          have HX2 := Lib.hid (HX1.out.below hb5)
          have HY2 := Lib.hid (HY1.out.below hb5)
          have HP2 := Lib.hid (HP1.out.below hb5 (by omega))
          have HRR2 := Lib.hid (HRR1.out.below hb5 (by omega))
          have hbw2 := ext_trans hbx1 hb5
          have hs2 := hb5.size
          obtain ⟨q1, z1, l1⟩ := HX2.out
          obtain ⟨q2, z2, l2⟩ := HY2.out
          clear hb5
          go_wp2_with fail
          refine (HLP.out _ _ _ _ HP2.out).mono ?_
          rintro e x3 ⟨rfl, hb5⟩
          have HY3 := Lib.hid (HY2.out.below hb5)
          have HRR3 := Lib.hid (HRR2.out.below hb5 (by omega))
          have hbw3 := ext_trans hbw2 hb5
          have hs3 := hb5.size
          clear hb5 q1 z1 l1 q2 z2 l2
          obtain ⟨q2, z2, l2⟩ := HY3.out
          go_wp2_with fail
          refine (HLR.out _ _ _ _ HRR3.out).mono ?_
          rintro e x4 ⟨rfl, hb5⟩
          have HY4 := Lib.hid (HY3.out.below hb5)
          have HRR4 := Lib.hid (HRR3.out.below hb5 (by omega))
          have hbw4 := ext_trans hbw3 hb5
          have hs4 := hb5.size
          clear hb5 q2 z2 l2
          obtain ⟨q2, z2, l2⟩ := HY4.out
          go_wp2_with fail
          refine (HCR.out _ _ _ _ HRR4.out).mono ?_
          rintro e x5 ⟨rfl, hb5⟩
          have hbw5 := ext_trans hbw4 hb5
          clear hb5
          go_wp2
          go_ret
          exact ⟨rfl, hbw5⟩
      · by_cases h3 : (q : Int) ≤ 65536 - (N : Int)
        · have hd := HDD.out
          have e1 : decide (0 < (N : Int)) = false := by simp; omega
          have e1n : decide (0 < N) = false := by simp; omega
          have hrn : rn = 0 := by have := HR3N.out; rw [if_neg h1, if_neg h2] at this; omega
          have e2 : decide (0 < (q : Int)) = false := by simp; omega
          have e2n : decide (0 < q) = false := by simp; omega
          have h5 : ¬ 65536 - (N : Int) < (q : Int) := by omega
          have h4 : ¬ 65536 < (N : Int) + (q : Int) := by omega
          have h6 : decide (65536 - (N : Int) < (q : Int)) = false := by simp; omega
          have h7 : decide (65536 < (N : Int) + (q : Int)) = false := by simp; omega
          have e3 : ((tt : Int) == (N : Int) + (q : Int)) = true := by have := HTT.out; simp; omega
          subst hrn
          clear h1 h2 h3 hd
          go_wp2_with fail
          refine (awake_any _).mono ?_
          rintro e x2 ⟨rfl, hb5⟩
          have HX2 := Lib.hid (HX1.out.below hb5)
          have HY2 := Lib.hid (HY1.out.below hb5)
          have HP2 := Lib.hid (HP1.out.below hb5 (by omega))
          have HRR2 := Lib.hid (HRR1.out.below hb5 (by omega))
          have hbw2 := ext_trans hbx1 hb5
          have hs2 := hb5.size
          obtain ⟨q1, z1, l1⟩ := HX2.out
          obtain ⟨q2, z2, l2⟩ := HY2.out
          clear hb5
          go_wp2_with fail
          refine (HLP.out _ _ _ _ HP2.out).mono ?_
          rintro e x3 ⟨rfl, hb5⟩
          have HY3 := Lib.hid (HY2.out.below hb5)
          have HRR3 := Lib.hid (HRR2.out.below hb5 (by omega))
          have hbw3 := ext_trans hbw2 hb5
          have hs3 := hb5.size
          clear hb5 q1 z1 l1 q2 z2 l2
          obtain ⟨q2, z2, l2⟩ := HY3.out
          go_wp2_with fail
          refine (HLR.out _ _ _ _ HRR3.out).mono ?_
          rintro e x4 ⟨rfl, hb5⟩
          have HY4 := Lib.hid (HY3.out.below hb5)
          have HRR4 := Lib.hid (HRR3.out.below hb5 (by omega))
          have hbw4 := ext_trans hbw3 hb5
          have hs4 := hb5.size
          clear hb5 q2 z2 l2
          obtain ⟨q2, z2, l2⟩ := HY4.out
          go_wp2_with fail
          refine (HCR.out _ _ _ _ HRR4.out).mono ?_
          rintro e x5 ⟨rfl, hb5⟩
          have hbw5 := ext_trans hbw4 hb5
          clear hb5
          go_wp2
          go_ret
          exact ⟨rfl, hbw5⟩
        · have hd := HDD.out
          have e1 : decide (0 < (N : Int)) = false := by simp; omega
          have e1n : decide (0 < N) = false := by simp; omega
          have hrn : rn = 0 := by have := HR3N.out; rw [if_neg h1, if_neg h2] at this; omega
          have e2 : decide (0 < 65536 - (N : Int)) = false := by simp; omega
          have e2n : decide (N < 65536) = false := by simp; omega
          have e2m : decide ((N : Int) < 65536) = false := by simp; omega
          have h5 : 65536 - (N : Int) < (q : Int) := by omega
          have h4 : 65536 < (N : Int) + (q : Int) := by omega
          have h6 : decide (65536 - (N : Int) < (q : Int)) = true := by simp; omega
          have h7 : decide (65536 < (N : Int) + (q : Int)) = true := by simp; omega
          have e3 : ((tt : Int) == 65536) = true := by have := HTT.out; simp; omega
          subst hrn
          clear h1 h2 h3 hd
          go_wp2_with fail
          refine (awake_any _).mono ?_
          rintro e x2 ⟨rfl, hb5⟩
          have HX2 := Lib.hid (HX1.out.below hb5)
          have HY2 := Lib.hid (HY1.out.below hb5)
          have HP2 := Lib.hid (HP1.out.below hb5 (by omega))
          have HRR2 := Lib.hid (HRR1.out.below hb5 (by omega))
          have hbw2 := ext_trans hbx1 hb5
          have hs2 := hb5.size
          obtain ⟨q1, z1, l1⟩ := HX2.out
          obtain ⟨q2, z2, l2⟩ := HY2.out
          clear hb5
          go_wp2_with fail
          refine (HLP.out _ _ _ _ HP2.out).mono ?_
          rintro e x3 ⟨rfl, hb5⟩
          have HY3 := Lib.hid (HY2.out.below hb5)
          have HRR3 := Lib.hid (HRR2.out.below hb5 (by omega))
          have hbw3 := ext_trans hbw2 hb5
          have hs3 := hb5.size
          clear hb5 q1 z1 l1 q2 z2 l2
          obtain ⟨q2, z2, l2⟩ := HY3.out
          go_wp2_with fail
          refine (HLR.out _ _ _ _ HRR3.out).mono ?_
          rintro e x4 ⟨rfl, hb5⟩
          have HY4 := Lib.hid (HY3.out.below hb5)
          have HRR4 := Lib.hid (HRR3.out.below hb5 (by omega))
          have hbw4 := ext_trans hbw3 hb5
          have hs4 := hb5.size
          clear hb5 q2 z2 l2
          obtain ⟨q2, z2, l2⟩ := HY4.out
          go_wp2_with fail
          refine (HCR.out _ _ _ _ HRR4.out).mono ?_
          rintro e x5 ⟨rfl, hb5⟩
          have hbw5 := ext_trans hbw4 hb5
          clear hb5
          go_wp2
          go_ret
          exact ⟨rfl, hbw5⟩
theorem longLaw (n m : Int) (w : World) : Calls Try.prog 3 #[.int .i64 n, .int .i64 m] w fun e w' => e = .returned (.bool true) ∧ Below w.heap.size w w' := by
  by_cases h1 : n < 0
  · exact longLow n m w h1
  · by_cases h2 : 65536 < n
    · exact longHigh n m w h2
    · obtain ⟨N, rfl⟩ : ∃ N : Nat, n = N := ⟨n.toNat, by omega⟩
      obtain ⟨q, hq⟩ : ∃ q : Nat, m % 65537 = q := ⟨(m % 65537).toNat, by omega⟩
      exact longMid N q m w (by omega) hq (by omega)
end Go.Proofs.Ytjbbkhoonenfjaa

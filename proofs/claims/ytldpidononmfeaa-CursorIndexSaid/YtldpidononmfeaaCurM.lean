/- Layer 30: the laws CursorPlace, CursorIndex, CursorOrder (printed by curm.py). -/
import Derived.Test.YtldpidononmfeaaCurL
import Derived.Test.YtldpidononmfeaaOpenC
import Derived.Deep.DeepCutAuto
set_option linter.unusedVariables false
set_option linter.unusedSimpArgs false
namespace Go.Proofs.Ytldpidononmfeaa
open Go.RowKit

theorem units_eq {x : Cf} (h : checkZ x = 0) : unitsZ x = x.ss.length * (x.la - x.fi + 1) := if_pos h
theorem units_ok {x : Cf} {k : Int} (h0 : 0 ≤ k) (h : k < unitsZ x) : checkZ x = 0 := Decidable.byContradiction fun hn => by
  have : unitsZ x = 0 := if_neg hn
  omega
theorem place_true {x : Cf} {k a b : Int} (h : placeZ x k = (a, b, true)) : 0 ≤ k ∧ k < unitsZ x ∧ a = k / (x.la - x.fi + 1) ∧ b = x.fi + k % (x.la - x.fi + 1) := by
  unfold placeZ at h
  split at h
  · simp at h
  · simp only [Prod.mk.injEq] at h
    refine ⟨by omega, by omega, h.1.symm, h.2.1.symm⟩
theorem place_false {x : Cf} {k a b : Int} (h : placeZ x k = (a, b, false)) : a = 0 ∧ b = 0 := by
  unfold placeZ at h
  split at h
  · simp only [Prod.mk.injEq] at h
    exact ⟨h.1.symm, h.2.1.symm⟩
  · simp at h
theorem place_index {x : Cf} {k a b : Int} (h : placeZ x k = (a, b, true)) : indexZ x a b = (k, true) := by
  obtain ⟨h0, h1, ha, hb⟩ := place_true h
  have hc := units_ok h0 h1
  obtain ⟨g1, g2, g3, g4, g5, _⟩ := check_ok hc
  rw [units_eq hc] at h1
  obtain ⟨m, hm⟩ : ∃ m, x.la - x.fi + 1 = m := ⟨_, rfl⟩
  rw [hm] at h1 ha hb
  have hm0 : 0 < m := by omega
  have r0 : 0 ≤ k % m := Int.emod_nonneg _ (by omega)
  have r1 : k % m < m := Int.emod_lt_of_pos _ hm0
  have q0 : 0 ≤ k / m := Int.ediv_nonneg h0 (by omega)
  have q1 : k / m < x.ss.length := Int.ediv_lt_of_lt_mul hm0 h1
  have hin : inPlace x a b = true := by
    simp only [inPlace, Bool.and_eq_true, decide_eq_true_eq]
    refine ⟨⟨⟨⟨hc, by omega⟩, by omega⟩, by omega⟩, by omega⟩
  rw [indexZ, if_pos hin, hm, ha, hb]
  have e := Int.mul_ediv_add_emod k m
  rw [Int.mul_comm] at e
  congr 1
  omega
theorem index_place {x : Cf} {s u : Int} (h : inPlace x s u = true) : placeZ x (s * (x.la - x.fi + 1) + u - x.fi) = (s, u, true) := by
  simp only [inPlace, Bool.and_eq_true, decide_eq_true_eq] at h
  obtain ⟨⟨⟨⟨hc, h0⟩, h1⟩, h2⟩, h3⟩ := h
  obtain ⟨g1, g2, g3, g4, g5, _⟩ := check_ok hc
  obtain ⟨m, hm⟩ : ∃ m, x.la - x.fi + 1 = m := ⟨_, rfl⟩
  rw [placeZ, units_eq hc, hm]
  have hm0 : 0 < m := by omega
  have e1 : 0 ≤ s * m := Int.mul_nonneg h0 (by omega)
  have e2 : (s + 1) * m ≤ x.ss.length * m := Int.mul_le_mul_of_nonneg_right (by omega) (by omega)
  rw [Int.add_mul, Int.one_mul] at e2
  have huniq := (Int.ediv_emod_unique (a := s * m + u - x.fi) (r := u - x.fi) (q := s) hm0).2 ⟨by rw [Int.mul_comm m s]; omega, by omega, by omega⟩
  rw [if_neg (by omega), huniq.1, huniq.2]
  congr 2
  omega
theorem index_eq {x : Cf} {s u a : Int} {o : Bool} (h : indexZ x s u = (a, o)) : o = inPlace x s u ∧ (o = false → a = 0) ∧ (o = true → a = s * (x.la - x.fi + 1) + u - x.fi) := by
  unfold indexZ at h
  by_cases hi : inPlace x s u = true
  · rw [if_pos hi] at h
    simp only [Prod.mk.injEq] at h
    obtain ⟨rfl, rfl⟩ := h
    exact ⟨hi.symm, by simp, fun _ => rfl⟩
  · rw [if_neg hi] at h
    simp only [Prod.mk.injEq] at h
    obtain ⟨rfl, rfl⟩ := h
    exact ⟨by simpa using hi, fun _ => rfl, by simp⟩
theorem step_div {k m : Int} (hk : 1 ≤ k) (hm : 1 ≤ m) : (k - 1) / m < k / m ∨ ((k - 1) / m = k / m ∧ (k - 1) % m < k % m) := by
  have r0 : 0 ≤ (k - 1) % m := Int.emod_nonneg _ (by omega)
  have r1 : (k - 1) % m < m := Int.emod_lt_of_pos _ (by omega)
  have e := Int.mul_ediv_add_emod (k - 1) m
  obtain ⟨q, hq⟩ : ∃ q, (k - 1) / m = q := ⟨_, rfl⟩
  obtain ⟨r, hr⟩ : ∃ r, (k - 1) % m = r := ⟨_, rfl⟩
  rw [hq, hr] at e
  rw [hr] at r0 r1
  by_cases h : r + 1 < m
  · have h2 := (Int.ediv_emod_unique (a := k) (r := r + 1) (q := q) (by omega : 0 < m)).2 ⟨by omega, by omega, by omega⟩
    rw [h2.1, h2.2, hq, hr]
    omega
  · have h2 := (Int.ediv_emod_unique (a := k) (r := 0) (q := q + 1) (by omega : 0 < m)).2 ⟨by rw [Int.mul_add, Int.mul_one]; omega, by omega, by omega⟩
    rw [h2.1, hq]
    omega
theorem last_div {n m : Int} (hn : 1 ≤ n) (hm : 1 ≤ m) : (n * m - 1) / m = n - 1 ∧ (n * m - 1) % m = m - 1 :=
  (Int.ediv_emod_unique (by omega : 0 < m)).2 ⟨by rw [Int.mul_sub, Int.mul_one, Int.mul_comm m n]; omega, by omega, by omega⟩

set_option maxRecDepth 100000 in
set_option maxHeartbeats 2000000 in
theorem lawPlace_any (x : Cf) (A : Option Addr) (n c : Nat) (k : Int) (w : World) (hr : Rd w w.heap.size 2 A n (stCells x.ss)) (hl : x.ss.length = n) (hn : n ≤ maxLen) :
    Calls Try.prog 3 #[cfV A n c x, .int .i64 k] w fun e w' => e = .returned (.bool true) ∧ Below w.heap.size w w' := by
  obtain ⟨a, b, o, hp⟩ : ∃ a b o, placeZ x k = (a, b, o) := ⟨_, _, _, rfl⟩
  obtain ⟨m, f, hi⟩ : ∃ m f, indexZ x a b = (m, f) := ⟨_, _, rfl⟩
  have hpi : o = true → m = k ∧ f = true := fun h => by
    subst h
    rw [place_index hp] at hi
    simp only [Prod.mk.injEq] at hi
    exact ⟨hi.1.symm, hi.2.symm⟩
  have HP := Lib.hid (fun (W : World) (h : Below w.heap.size w W) => place_any x A n c _ k a b o W (hr.below h (Nat.le_refl _)) hl hn hp)
  have HRP := Lib.hid (fun (W : World) (h : Below w.heap.size w W) => rplace_any x A n c _ k a b o W (hr.below h (Nat.le_refl _)) hl hn hp)
  have HI := Lib.hid (fun (W : World) (h : Below w.heap.size w W) => index_cfg x A n c _ a b m f W (hr.below h (Nat.le_refl _)) hl hn hi)
  have HPI := Lib.hid hpi
  clear hr hl hp hi hpi
  unfold maxLen at hn
  have na : (a != a) = false := by simp
  have nb : (b != b) = false := by simp
  have no : (o != o) = false := by simp
  by_cases h8 : 8 < n
  · go_enter Try.func3, Try.ntmps3
    have hb0 : Below w.heap.size w (w.alloc (.cells #[.slice A n c, .int .i64 x.fi, .int .i64 x.la, .int .i64 x.re, .int .i64 x.ti, .int .i64 x.de, .int .i64 x.w0f, .int .i64 x.w0c, .int .i64 x.w1f, .int .i64 x.w1c, .int .i64 x.w2f, .int .i64 x.w2c, .int .i64 x.w3f, .int .i64 x.w3c, .int .i64 x.ev, .int .i64 x.st] 27)) := (Below.refl _ _).alloc (Nat.le_refl _) _
    have HB0 := Lib.hid (Box.alloc_ (w := w) (cs := #[.slice A n c, .int .i64 x.fi, .int .i64 x.la, .int .i64 x.re, .int .i64 x.ti, .int .i64 x.de, .int .i64 x.w0f, .int .i64 x.w0c, .int .i64 x.w1f, .int .i64 x.w1c, .int .i64 x.w2f, .int .i64 x.w2c, .int .i64 x.w3f, .int .i64 x.w3c, .int .i64 x.ev, .int .i64 x.st]) (e := 27))
    go_wp2_with fail
    refine (awake_any _).mono ?_
    rintro e w1 ⟨rfl, hb1⟩
    go_wp2
    go_ret
    exact ⟨rfl, hb0.trans (hb1.mono hb0.size)⟩
  · go_enter Try.func3, Try.ntmps3
    have hb0 : Below w.heap.size w (w.alloc (.cells #[.slice A n c, .int .i64 x.fi, .int .i64 x.la, .int .i64 x.re, .int .i64 x.ti, .int .i64 x.de, .int .i64 x.w0f, .int .i64 x.w0c, .int .i64 x.w1f, .int .i64 x.w1c, .int .i64 x.w2f, .int .i64 x.w2c, .int .i64 x.w3f, .int .i64 x.w3c, .int .i64 x.ev, .int .i64 x.st] 27)) := (Below.refl _ _).alloc (Nat.le_refl _) _
    have HB0 := Lib.hid (Box.alloc_ (w := w) (cs := #[.slice A n c, .int .i64 x.fi, .int .i64 x.la, .int .i64 x.re, .int .i64 x.ti, .int .i64 x.de, .int .i64 x.w0f, .int .i64 x.w0c, .int .i64 x.w1f, .int .i64 x.w1c, .int .i64 x.w2f, .int .i64 x.w2c, .int .i64 x.w3f, .int .i64 x.w3c, .int .i64 x.ev, .int .i64 x.st]) (e := 27))
    go_wp2_with fail
    refine (HP.out _ hb0).mono ?_
    rintro e w1 ⟨rfl, hb1⟩
    have HB1 := Lib.hid (HB0.out.below hb1)
    have hbw1 := hb0.trans (hb1.mono hb0.size)
    obtain ⟨q, z, l⟩ := HB1.out
    clear hb1 hb0 HB0
    go_wp2_with fail
    refine (HRP.out _ hbw1).mono ?_
    rintro e w2 ⟨rfl, hb2⟩
    have HB2 := Lib.hid (HB1.out.below hb2)
    have hbw2 := ext_trans hbw1 hb2
    clear q z l hb2 HB1
    obtain ⟨q, z, l⟩ := HB2.out
    go_wp2_with fail
    refine (HI.out _ hbw2).mono ?_
    rintro e w3 ⟨rfl, hb3⟩
    have hbw3 := ext_trans hbw2 hb3
    clear q z l hb3
    go_wp2_with fail
    refine (awake_any _).mono ?_
    rintro e w4 ⟨rfl, hb4⟩
    have hbw4 := ext_trans hbw3 hb4
    cases o
    · go_wp2
      go_ret
      exact ⟨rfl, hbw4⟩
    · obtain ⟨rfl, rfl⟩ := HPI.out rfl
      go_wp2
      go_ret
      exact ⟨by first | rfl | simp, hbw4⟩

set_option maxRecDepth 100000 in
set_option maxHeartbeats 2000000 in
theorem lawIndex_any (x : Cf) (A : Option Addr) (n c : Nat) (s u : Int) (w : World) (hr : Rd w w.heap.size 2 A n (stCells x.ss)) (hl : x.ss.length = n) (hn : n ≤ maxLen) :
    Calls Try.prog 4 #[cfV A n c x, .int .i64 s, .int .i64 u] w fun e w' => e = .returned (.bool true) ∧ Below w.heap.size w w' := by
  obtain ⟨k, o, hi⟩ : ∃ m f, indexZ x s u = (m, f) := ⟨_, _, rfl⟩
  obtain ⟨i1, i2, i3⟩ := index_eq hi
  have hpl : o = true → placeZ x k = (s, u, true) := fun h => by rw [i3 h]; exact index_place (i1 ▸ h)
  obtain ⟨ck, hck⟩ : ∃ ck, checkZ x = ck := ⟨_, rfl⟩
  rw [inPlace, hck, hl] at i1
  have HI := Lib.hid (fun (W : World) (h : Below w.heap.size w W) => index_cfg x A n c _ s u k o W (hr.below h (Nat.le_refl _)) hl hn hi)
  have HCK := Lib.hid (fun (W : World) (h : Below w.heap.size w W) => rcheck_any x A n c _ ck W (hr.below h (Nat.le_refl _)) hl hn hck)
  have HP := Lib.hid (fun (ho : o = true) (W : World) (h : Below w.heap.size w W) => place_any x A n c _ k s u true W (hr.below h (Nat.le_refl _)) hl hn (hpl ho))
  have HI1 := Lib.hid i1
  have HI2 := Lib.hid i2
  clear hr hl hi hpl hck i1 i2 i3
  unfold maxLen at hn
  by_cases h8 : 8 < n
  · go_enter Try.func4, Try.ntmps4
    have hb0 : Below w.heap.size w (w.alloc (.cells #[.slice A n c, .int .i64 x.fi, .int .i64 x.la, .int .i64 x.re, .int .i64 x.ti, .int .i64 x.de, .int .i64 x.w0f, .int .i64 x.w0c, .int .i64 x.w1f, .int .i64 x.w1c, .int .i64 x.w2f, .int .i64 x.w2c, .int .i64 x.w3f, .int .i64 x.w3c, .int .i64 x.ev, .int .i64 x.st] 27)) := (Below.refl _ _).alloc (Nat.le_refl _) _
    have HB0 := Lib.hid (Box.alloc_ (w := w) (cs := #[.slice A n c, .int .i64 x.fi, .int .i64 x.la, .int .i64 x.re, .int .i64 x.ti, .int .i64 x.de, .int .i64 x.w0f, .int .i64 x.w0c, .int .i64 x.w1f, .int .i64 x.w1c, .int .i64 x.w2f, .int .i64 x.w2c, .int .i64 x.w3f, .int .i64 x.w3c, .int .i64 x.ev, .int .i64 x.st]) (e := 27))
    go_wp2_with fail
    refine (awake_any _).mono ?_
    rintro e w1 ⟨rfl, hb1⟩
    go_wp2
    go_ret
    exact ⟨rfl, hb0.trans (hb1.mono hb0.size)⟩
  · go_enter Try.func4, Try.ntmps4
    have hb0 : Below w.heap.size w (w.alloc (.cells #[.slice A n c, .int .i64 x.fi, .int .i64 x.la, .int .i64 x.re, .int .i64 x.ti, .int .i64 x.de, .int .i64 x.w0f, .int .i64 x.w0c, .int .i64 x.w1f, .int .i64 x.w1c, .int .i64 x.w2f, .int .i64 x.w2c, .int .i64 x.w3f, .int .i64 x.w3c, .int .i64 x.ev, .int .i64 x.st] 27)) := (Below.refl _ _).alloc (Nat.le_refl _) _
    have HB0 := Lib.hid (Box.alloc_ (w := w) (cs := #[.slice A n c, .int .i64 x.fi, .int .i64 x.la, .int .i64 x.re, .int .i64 x.ti, .int .i64 x.de, .int .i64 x.w0f, .int .i64 x.w0c, .int .i64 x.w1f, .int .i64 x.w1c, .int .i64 x.w2f, .int .i64 x.w2c, .int .i64 x.w3f, .int .i64 x.w3c, .int .i64 x.ev, .int .i64 x.st]) (e := 27))
    go_wp2_with fail
    refine (HI.out _ hb0).mono ?_
    rintro e w1 ⟨rfl, hb1⟩
    have HB1 := Lib.hid (HB0.out.below hb1)
    have hbw1 := hb0.trans (hb1.mono hb0.size)
    obtain ⟨q, z, l⟩ := HB1.out
    clear hb1 hb0 HB0
    go_wp2_with fail
    refine (HCK.out _ hbw1).mono ?_
    rintro e w2 ⟨rfl, hb2⟩
    have HB2 := Lib.hid (HB1.out.below hb2)
    have hbw2 := ext_trans hbw1 hb2
    clear q z l hb2 HB1
    obtain ⟨q, z, l⟩ := HB2.out
    have h1 := HI1.out
    cases o
    · obtain rfl := HI2.out rfl
      have hways : ck ≠ 0 ∨ (ck = 0 ∧ (s < 0 ∨ (0 ≤ s ∧ ((n : Int) ≤ s ∨ (s < n ∧ (u < x.fi ∨ (x.fi ≤ u ∧ x.la < u))))))) := by
        have h2 : ¬ (ck = 0 ∧ 0 ≤ s ∧ s < n ∧ x.fi ≤ u ∧ u ≤ x.la) := by
          rintro ⟨a1, a2, a3, a4, a5⟩
          simp [a1, a2, a3, a4, a5] at h1
        omega
      clear h1
      obtain ⟨fi, hfi⟩ : ∃ fi, x.fi = fi := ⟨_, rfl⟩
      obtain ⟨la, hla⟩ : ∃ la, x.la = la := ⟨_, rfl⟩
      rw [hfi, hla] at hways
      have y1 : w2.cell? ⟨w.heap.size, 1, none⟩ = some (.int .i64 fi) := by rw [q 1, ← hfi]; rfl
      have y2 : w2.cell? ⟨w.heap.size, 2, none⟩ = some (.int .i64 la) := by rw [q 2, ← hla]; rfl
      have y0 : w2.cell? ⟨w.heap.size, 0, none⟩ = some (.slice A n c) := q 0
      clear q hfi hla
      rcases hways with h | ⟨rfl, h | ⟨a1, h | ⟨a2, h | ⟨a3, h⟩⟩⟩⟩
      case' inl => have hd : (ck == 0) = false := by simpa using h
      all_goals
        go_wp2_with fail
        refine (awake_any _).mono ?_
        rintro e w3 ⟨rfl, hb3⟩
        go_wp2
        go_ret
        exact ⟨by first | rfl | (simp; omega), ext_trans hbw2 hb3⟩
    · have hall : ck = 0 ∧ 0 ≤ s ∧ s < n ∧ x.fi ≤ u ∧ u ≤ x.la := by
        have := h1.symm
        simp only [Bool.and_eq_true, decide_eq_true_eq] at this
        obtain ⟨⟨⟨⟨p1, p2⟩, p3⟩, p4⟩, p5⟩ := this
        exact ⟨p1, p2, p3, p4, p5⟩
      obtain ⟨rfl, a1, a2, a3, a4⟩ := hall
      clear h1
      go_wp2_with fail
      refine (HP.out (by first | rfl | trivial) _ hbw2).mono ?_
      rintro e w3 ⟨rfl, hb3⟩
      have hbw3 := ext_trans hbw2 hb3
      clear q z l hb3
      go_wp2_with fail
      refine (awake_any _).mono ?_
      rintro e w4 ⟨rfl, hb4⟩
      go_wp2
      go_ret
      exact ⟨by first | rfl | simp, ext_trans hbw3 hb4⟩
end Go.Proofs.Ytldpidononmfeaa

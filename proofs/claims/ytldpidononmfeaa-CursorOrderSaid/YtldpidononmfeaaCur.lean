/- Layers 17, 30: contracts of Units, Place, Index and of the reference's Units and Place (printed by cur.py). -/
import Derived.Test.YtldpidononmfeaaCfgR
import Derived.Deep.QuietTactic
import Derived.BigQuiet
set_option linter.unusedVariables false
set_option linter.unusedSimpArgs false
namespace Go.Proofs.Ytldpidononmfeaa
open Go.RowKit

theorem check_ok {x : Cf} (h : checkZ x = 0) : 1 ≤ x.fi ∧ x.fi ≤ x.la ∧ x.la ≤ 247 ∧ 1 ≤ x.ss.length ∧ x.ss.length ≤ 6 ∧ 0 ≤ x.re ∧ x.re ≤ 5 ∧ 1 ≤ x.ev ∧ x.ev ≤ 64 ∧ cntsB x = true ∧ fstsB x = true := by
  unfold checkZ winZ at h
  split at h
  · cases h
  · rename_i h1
    split at h
    · cases h
    · rename_i h2
      split at h
      · cases h
      · rename_i h3
        split at h
        · cases h
        · rename_i h4
          simp only [Bool.not_eq_false] at h1 h2 h3 h4
          simp only [listB, rangeB, inB, Bool.and_eq_true, decide_eq_true_eq, Bool.not_eq_true', decide_eq_false_iff_not] at h1 h2
          refine ⟨?_, ?_, ?_, h1.2.1, h1.2.2, ?_, ?_, ?_, ?_, h3, h4⟩ <;> omega
def unitsZ (x : Cf) : Int := if checkZ x = 0 then x.ss.length * (x.la - x.fi + 1) else 0
theorem units_bd (x : Cf) : 0 ≤ unitsZ x ∧ unitsZ x ≤ 1482 := by
  unfold unitsZ
  split
  · rename_i h
    obtain ⟨h1, h2, h3, h4, h5, _⟩ := check_ok h
    have e1 : (0 : Int) ≤ x.ss.length * (x.la - x.fi + 1) := Int.mul_nonneg (by omega) (by omega)
    have e2 : (x.ss.length : Int) * (x.la - x.fi + 1) ≤ 6 * 247 := Int.mul_le_mul (by omega) (by omega) (by omega) (by omega)
    omega
  · omega

set_option maxHeartbeats 1000000 in
theorem units_any (x : Cf) (A : Option Addr) (n c B : Nat) (z : Int) (w : World) (hr : Rd w B 2 A n (stCells x.ss)) (hl : x.ss.length = n) (hn : n ≤ maxLen) (hz : unitsZ x = z) :
    Calls Try.prog 11 #[cfV A n c x] w fun e w' => e = .returned (.int .i64 z) ∧ Below w.heap.size w w' := by
  have hr := hr.fits (by decide)
  obtain ⟨k, hk⟩ : ∃ k, checkZ x = k := ⟨_, rfl⟩
  have HC := Lib.hid (fun (W : World) (h : Below w.heap.size w W) => check_any x A n c _ k W (hr.below h (Nat.le_refl _)) hl hn hk)
  have hok := fun h : k = 0 => check_ok (x := x) (by rw [hk, h])
  obtain ⟨ss, fi, la, re, ti, de, w0f, w0c, w1f, w1c, w2f, w2c, w3f, w3c, ev, st⟩ := x
  simp only [unitsZ] at hz hl hok
  rw [hk, hl] at hz
  clear hr hk
  have hbx := (Below.refl w.heap.size w).alloc (Nat.le_refl _) (.cells #[.slice A n c, .int .i64 fi, .int .i64 la, .int .i64 re, .int .i64 ti, .int .i64 de, .int .i64 w0f, .int .i64 w0c, .int .i64 w1f, .int .i64 w1c, .int .i64 w2f, .int .i64 w2c, .int .i64 w3f, .int .i64 w3c, .int .i64 ev, .int .i64 st] 27)
  by_cases h0 : k = 0
  · obtain ⟨h1, h2, h3, h4, h5, _⟩ := hok h0
    rw [if_pos h0] at hz
    subst h0
    have HZ := Lib.hid hz
    have e1 : (0 : Int) ≤ n * (la - fi + 1) := Int.mul_nonneg (by omega) (by omega)
    have e2 : (n : Int) * (la - fi + 1) ≤ 6 * 247 := Int.mul_le_mul (by omega) (by omega) (by omega) (by omega)
    clear hz hok hl
    go_enter Try.func11, Try.ntmps11
    go_wp2_with fail
    refine (HC.out _ hbx).mono ?_
    rintro e w1 ⟨rfl, hb1⟩
    obtain ⟨q1, z1, l1⟩ := Box.new hb1
    go_wp2
    go_ret
    exact ⟨by rw [← HZ.out]; rfl, hbx.trans (hb1.mono hbx.size)⟩
  · rw [if_neg h0] at hz
    subst hz
    have hd : (k != 0) = true := by simpa using h0
    go_enter Try.func11, Try.ntmps11
    go_wp2_with fail
    refine (HC.out _ hbx).mono ?_
    rintro e w1 ⟨rfl, hb1⟩
    go_wp2
    go_ret
    exact ⟨rfl, hbx.trans (hb1.mono hbx.size)⟩

set_option maxHeartbeats 1000000 in
theorem runits_any (x : Cf) (A : Option Addr) (n c B : Nat) (z : Int) (w : World) (hr : Rd w B 2 A n (stCells x.ss)) (hl : x.ss.length = n) (hn : n ≤ maxLen) (hz : unitsZ x = z) :
    Calls Try.prog 13 #[cfV A n c x] w fun e w' => e = .returned (.int .i64 z) ∧ Below w.heap.size w w' := by
  have hr := hr.fits (by decide)
  obtain ⟨k, hk⟩ : ∃ k, checkZ x = k := ⟨_, rfl⟩
  have HC := Lib.hid (fun (W : World) (h : Below w.heap.size w W) => rcheck_any x A n c _ k W (hr.below h (Nat.le_refl _)) hl hn hk)
  have hok := fun h : k = 0 => check_ok (x := x) (by rw [hk, h])
  obtain ⟨ss, fi, la, re, ti, de, w0f, w0c, w1f, w1c, w2f, w2c, w3f, w3c, ev, st⟩ := x
  simp only [unitsZ] at hz hl hok
  rw [hk, hl] at hz
  clear hr hk
  have hbx := (Below.refl w.heap.size w).alloc (Nat.le_refl _) (.cells #[.slice A n c, .int .i64 fi, .int .i64 la, .int .i64 re, .int .i64 ti, .int .i64 de, .int .i64 w0f, .int .i64 w0c, .int .i64 w1f, .int .i64 w1c, .int .i64 w2f, .int .i64 w2c, .int .i64 w3f, .int .i64 w3c, .int .i64 ev, .int .i64 st] 27)
  by_cases h0 : k = 0
  · obtain ⟨h1, h2, h3, h4, h5, _⟩ := hok h0
    rw [if_pos h0] at hz
    subst h0
    have HZ := Lib.hid hz
    have e1 : (0 : Int) ≤ n * (la - fi + 1) := Int.mul_nonneg (by omega) (by omega)
    have e2 : (n : Int) * (la - fi + 1) ≤ 6 * 247 := Int.mul_le_mul (by omega) (by omega) (by omega) (by omega)
    clear hz hok hl
    go_enter Try.func13, Try.ntmps13
    go_wp2_with fail
    refine (HC.out _ hbx).mono ?_
    rintro e w1 ⟨rfl, hb1⟩
    obtain ⟨q1, z1, l1⟩ := Box.new hb1
    go_wp2
    go_ret
    exact ⟨by rw [← HZ.out]; rfl, hbx.trans (hb1.mono hbx.size)⟩
  · rw [if_neg h0] at hz
    subst hz
    have hd : (k != 0) = true := by simpa using h0
    go_enter Try.func13, Try.ntmps13
    go_wp2_with fail
    refine (HC.out _ hbx).mono ?_
    rintro e w1 ⟨rfl, hb1⟩
    go_wp2
    go_ret
    exact ⟨rfl, hbx.trans (hb1.mono hbx.size)⟩

def placeZ (x : Cf) (k : Int) : Int × Int × Bool := if k < 0 ∨ unitsZ x ≤ k then (0, 0, false) else (k / (x.la - x.fi + 1), x.fi + k % (x.la - x.fi + 1), true)

set_option maxHeartbeats 1000000 in
theorem place_any (x : Cf) (A : Option Addr) (n c B : Nat) (k : Int) (a b : Int) (o : Bool) (w : World) (hr : Rd w B 2 A n (stCells x.ss)) (hl : x.ss.length = n) (hn : n ≤ maxLen) (hz : placeZ x k = (a, b, o)) :
    Calls Try.prog 7 #[cfV A n c x, .int .i64 k] w fun e w' => e = .returned (.tuple #[.int .i64 a, .int .i64 b, .bool o]) ∧ Below w.heap.size w w' := by
  have hr := hr.fits (by decide)
  obtain ⟨u, hu⟩ : ∃ u, unitsZ x = u := ⟨_, rfl⟩
  have hub := units_bd x
  have HU := Lib.hid (fun (W : World) (h : Below w.heap.size w W) => units_any x A n c _ u W (hr.below h (Nat.le_refl _)) hl hn hu)
  have hok := fun h : checkZ x = 0 => check_ok (x := x) h
  have hu0 : checkZ x ≠ 0 → u = 0 := fun h => by rw [← hu, unitsZ, if_neg h]
  obtain ⟨ck, hck⟩ : ∃ ck, checkZ x = ck := ⟨_, rfl⟩
  rw [hck] at hok hu0
  obtain ⟨ss, fi, la, re, ti, de, w0f, w0c, w1f, w1c, w2f, w2c, w3f, w3c, ev, st⟩ := x
  simp only [placeZ] at hz hl hok
  rw [hu] at hz hub
  clear hr hu hck hl
  have hbx := (Below.refl w.heap.size w).alloc (Nat.le_refl _) (.cells #[.slice A n c, .int .i64 fi, .int .i64 la, .int .i64 re, .int .i64 ti, .int .i64 de, .int .i64 w0f, .int .i64 w0c, .int .i64 w1f, .int .i64 w1c, .int .i64 w2f, .int .i64 w2c, .int .i64 w3f, .int .i64 w3c, .int .i64 ev, .int .i64 st] 27)
  by_cases h0 : k < 0
  · rw [if_pos (.inl h0)] at hz
    simp only [Prod.mk.injEq] at hz
    obtain ⟨rfl, rfl, rfl⟩ := hz
    go_enter Try.func7, Try.ntmps7
    go_wp2
    go_ret3
    exact ⟨rfl, hbx⟩
  · by_cases h1 : u ≤ k
    · rw [if_pos (.inr h1)] at hz
      simp only [Prod.mk.injEq] at hz
      obtain ⟨rfl, rfl, rfl⟩ := hz
      go_enter Try.func7, Try.ntmps7
      go_wp2_with fail
      refine (HU.out _ hbx).mono ?_
      rintro e w1 ⟨rfl, hb1⟩
      go_wp2
      go_ret3
      exact ⟨rfl, hbx.trans (hb1.mono hbx.size)⟩
    · rw [if_neg (by omega)] at hz
      simp only [Prod.mk.injEq] at hz
      obtain ⟨ha, hb, rfl⟩ := hz
      have hc0 : ck = 0 := Decidable.byContradiction fun h => by have := hu0 h; omega
      obtain ⟨g1, g2, g3, g4, g5, _⟩ := hok hc0
      obtain ⟨m, hm⟩ : ∃ m, la - fi + 1 = m := ⟨_, rfl⟩
      rw [hm] at ha hb
      have hm1 : 1 ≤ m := by omega
      have hm2 : m ≤ 247 := by omega
      have hne : (m == 0) = false := by simp; omega
      have hr0 : 0 ≤ k % m := Int.emod_nonneg _ (by omega)
      have hr1 : k % m < m := Int.emod_lt_of_pos _ (by omega)
      have hq0 : 0 ≤ k / m := Int.ediv_nonneg (by omega) (by omega)
      have hq1 : k / m ≤ k := Int.ediv_le_self _ (by omega)
      have HA := Lib.hid ha
      have HBb := Lib.hid hb
      have hml : la - fi = m - 1 := by omega
      obtain ⟨hub1, hub2⟩ := hub
      clear ha hb hok hu0 hc0
      go_enter Try.func7, Try.ntmps7
      go_wp2_with fail
      refine (HU.out _ hbx).mono ?_
      rintro e w1 ⟨rfl, hb1⟩
      obtain ⟨q1, z1, l1⟩ := Box.new hb1
      go_wp2_with fail
      try rw [hm]
      go_quiet (fail)
      go_wp2
      go_ret3
      exact ⟨by rw [← HA.out, ← HBb.out]; rfl, below_drewN (hbx.trans (hb1.mono hbx.size)) _⟩

set_option maxHeartbeats 1000000 in
theorem rplace_any (x : Cf) (A : Option Addr) (n c B : Nat) (k : Int) (a b : Int) (o : Bool) (w : World) (hr : Rd w B 2 A n (stCells x.ss)) (hl : x.ss.length = n) (hn : n ≤ maxLen) (hz : placeZ x k = (a, b, o)) :
    Calls Try.prog 8 #[cfV A n c x, .int .i64 k] w fun e w' => e = .returned (.tuple #[.int .i64 a, .int .i64 b, .bool o]) ∧ Below w.heap.size w w' := by
  have hr := hr.fits (by decide)
  obtain ⟨u, hu⟩ : ∃ u, unitsZ x = u := ⟨_, rfl⟩
  have hub := units_bd x
  have HU := Lib.hid (fun (W : World) (h : Below w.heap.size w W) => runits_any x A n c _ u W (hr.below h (Nat.le_refl _)) hl hn hu)
  have hok := fun h : checkZ x = 0 => check_ok (x := x) h
  have hu0 : checkZ x ≠ 0 → u = 0 := fun h => by rw [← hu, unitsZ, if_neg h]
  obtain ⟨ck, hck⟩ : ∃ ck, checkZ x = ck := ⟨_, rfl⟩
  rw [hck] at hok hu0
  obtain ⟨ss, fi, la, re, ti, de, w0f, w0c, w1f, w1c, w2f, w2c, w3f, w3c, ev, st⟩ := x
  simp only [placeZ] at hz hl hok
  rw [hu] at hz hub
  clear hr hu hck hl
  have hbx := (Below.refl w.heap.size w).alloc (Nat.le_refl _) (.cells #[.slice A n c, .int .i64 fi, .int .i64 la, .int .i64 re, .int .i64 ti, .int .i64 de, .int .i64 w0f, .int .i64 w0c, .int .i64 w1f, .int .i64 w1c, .int .i64 w2f, .int .i64 w2c, .int .i64 w3f, .int .i64 w3c, .int .i64 ev, .int .i64 st] 27)
  by_cases h0 : k < 0
  · rw [if_pos (.inl h0)] at hz
    simp only [Prod.mk.injEq] at hz
    obtain ⟨rfl, rfl, rfl⟩ := hz
    go_enter Try.func8, Try.ntmps8
    go_wp2
    go_ret3
    exact ⟨rfl, hbx⟩
  · by_cases h1 : u ≤ k
    · rw [if_pos (.inr h1)] at hz
      simp only [Prod.mk.injEq] at hz
      obtain ⟨rfl, rfl, rfl⟩ := hz
      go_enter Try.func8, Try.ntmps8
      go_wp2_with fail
      refine (HU.out _ hbx).mono ?_
      rintro e w1 ⟨rfl, hb1⟩
      go_wp2
      go_ret3
      exact ⟨rfl, hbx.trans (hb1.mono hbx.size)⟩
    · rw [if_neg (by omega)] at hz
      simp only [Prod.mk.injEq] at hz
      obtain ⟨ha, hb, rfl⟩ := hz
      have hc0 : ck = 0 := Decidable.byContradiction fun h => by have := hu0 h; omega
      obtain ⟨g1, g2, g3, g4, g5, _⟩ := hok hc0
      obtain ⟨m, hm⟩ : ∃ m, la - fi + 1 = m := ⟨_, rfl⟩
      rw [hm] at ha hb
      have hm1 : 1 ≤ m := by omega
      have hm2 : m ≤ 247 := by omega
      have hne : (m == 0) = false := by simp; omega
      have hr0 : 0 ≤ k % m := Int.emod_nonneg _ (by omega)
      have hr1 : k % m < m := Int.emod_lt_of_pos _ (by omega)
      have hq0 : 0 ≤ k / m := Int.ediv_nonneg (by omega) (by omega)
      have hq1 : k / m ≤ k := Int.ediv_le_self _ (by omega)
      have HA := Lib.hid ha
      have HBb := Lib.hid hb
      have hml : la - fi = m - 1 := by omega
      obtain ⟨hub1, hub2⟩ := hub
      clear ha hb hok hu0 hc0
      go_enter Try.func8, Try.ntmps8
      go_wp2_with fail
      refine (HU.out _ hbx).mono ?_
      rintro e w1 ⟨rfl, hb1⟩
      obtain ⟨q1, z1, l1⟩ := Box.new hb1
      go_wp2_with fail
      try rw [hm]
      go_quiet (fail)
      go_wp2
      go_ret3
      exact ⟨by rw [← HA.out, ← HBb.out]; rfl, below_drewN (hbx.trans (hb1.mono hbx.size)) _⟩

def inPlace (x : Cf) (s u : Int) : Bool := decide (checkZ x = 0) && decide (0 ≤ s) && decide (s < x.ss.length) && decide (x.fi ≤ u) && decide (u ≤ x.la)
def indexZ (x : Cf) (s u : Int) : Int × Bool := if inPlace x s u = true then (s * (x.la - x.fi + 1) + u - x.fi, true) else (0, false)
set_option maxHeartbeats 2000000 in
theorem index_cfg (x : Cf) (A : Option Addr) (n c B : Nat) (s u a : Int) (o : Bool) (w : World) (hr : Rd w B 2 A n (stCells x.ss)) (hl : x.ss.length = n) (hn : n ≤ maxLen) (hz : indexZ x s u = (a, o)) :
    Calls Try.prog 9 #[cfV A n c x, .int .i64 s, .int .i64 u] w fun e w' => e = .returned (.tuple #[.int .i64 a, .bool o]) ∧ Below w.heap.size w w' := by
  have hr := hr.fits (by decide)
  obtain ⟨k, hk⟩ : ∃ k, checkZ x = k := ⟨_, rfl⟩
  have HC := Lib.hid (fun (W : World) (h : Below w.heap.size w W) => check_any x A n c _ k W (hr.below h (Nat.le_refl _)) hl hn hk)
  have hok := fun h : k = 0 => check_ok (x := x) (by rw [hk, h])
  have hip : inPlace x s u = (decide (k = 0) && decide (0 ≤ s) && decide (s < (n : Int)) && decide (x.fi ≤ u) && decide (u ≤ x.la)) := by rw [inPlace, hk, hl]
  rw [indexZ, hip] at hz
  rw [hl] at hok
  clear hip
  obtain ⟨ss, fi, la, re, ti, de, w0f, w0c, w1f, w1c, w2f, w2c, w3f, w3c, ev, st⟩ := x
  dsimp only at hz hok
  clear hr hk hl
  have hbx := (Below.refl w.heap.size w).alloc (Nat.le_refl _) (.cells #[.slice A n c, .int .i64 fi, .int .i64 la, .int .i64 re, .int .i64 ti, .int .i64 de, .int .i64 w0f, .int .i64 w0c, .int .i64 w1f, .int .i64 w1c, .int .i64 w2f, .int .i64 w2c, .int .i64 w3f, .int .i64 w3c, .int .i64 ev, .int .i64 st] 27)
  by_cases h0 : k = 0
  · obtain ⟨g1, g2, g3, g4, g5, _⟩ := hok h0
    have hd : (k != 0) = false := by simpa using h0
    clear hok
    by_cases h1 : 0 ≤ s
    · by_cases h2 : s < n
      · by_cases h3 : fi ≤ u
        · by_cases h4 : u ≤ la
          · rw [if_pos (by simp [h0, h1, h2, h3, h4])] at hz
            simp only [Prod.mk.injEq] at hz
            obtain ⟨ha, rfl⟩ := hz
            have HA := Lib.hid ha
            obtain ⟨m, hm⟩ : ∃ m, la - fi + 1 = m := ⟨_, rfl⟩
            rw [hm] at HA
            have e1 : (0 : Int) ≤ s * m := Int.mul_nonneg h1 (by omega)
            have e2 : s * m ≤ 6 * 247 := Int.mul_le_mul (by omega) (by omega) (by omega) (by omega)
            have hml : la - fi = m - 1 := by omega
            clear ha h0
            go_enter Try.func9, Try.ntmps9
            go_wp2_with fail
            refine (HC.out _ hbx).mono ?_
            rintro e w1 ⟨rfl, hb1⟩
            obtain ⟨q1, z1, l1⟩ := Box.new hb1
            go_wp2
            go_ret2
            exact ⟨by rw [← HA.out, ← hm]; first | rfl | (congr 3; omega), hbx.trans (hb1.mono hbx.size)⟩
          · rw [if_neg (by simp [h4])] at hz
            simp only [Prod.mk.injEq] at hz
            obtain ⟨rfl, rfl⟩ := hz
            clear h0
            go_enter Try.func9, Try.ntmps9
            go_wp2_with fail
            refine (HC.out _ hbx).mono ?_
            rintro e w1 ⟨rfl, hb1⟩
            obtain ⟨q1, z1, l1⟩ := Box.new hb1
            go_wp2
            go_ret2
            exact ⟨rfl, hbx.trans (hb1.mono hbx.size)⟩
        · rw [if_neg (by simp [h3])] at hz
          simp only [Prod.mk.injEq] at hz
          obtain ⟨rfl, rfl⟩ := hz
          clear h0
          go_enter Try.func9, Try.ntmps9
          go_wp2_with fail
          refine (HC.out _ hbx).mono ?_
          rintro e w1 ⟨rfl, hb1⟩
          obtain ⟨q1, z1, l1⟩ := Box.new hb1
          go_wp2
          go_ret2
          exact ⟨rfl, hbx.trans (hb1.mono hbx.size)⟩
      · rw [if_neg (by simp [h2])] at hz
        simp only [Prod.mk.injEq] at hz
        obtain ⟨rfl, rfl⟩ := hz
        clear h0
        go_enter Try.func9, Try.ntmps9
        go_wp2_with fail
        refine (HC.out _ hbx).mono ?_
        rintro e w1 ⟨rfl, hb1⟩
        obtain ⟨q1, z1, l1⟩ := Box.new hb1
        go_wp2
        go_ret2
        exact ⟨rfl, hbx.trans (hb1.mono hbx.size)⟩
    · rw [if_neg (by simp [h1])] at hz
      simp only [Prod.mk.injEq] at hz
      obtain ⟨rfl, rfl⟩ := hz
      clear h0
      go_enter Try.func9, Try.ntmps9
      go_wp2_with fail
      refine (HC.out _ hbx).mono ?_
      rintro e w1 ⟨rfl, hb1⟩
      go_wp2
      go_ret2
      exact ⟨rfl, hbx.trans (hb1.mono hbx.size)⟩
  · rw [if_neg (by simp [h0])] at hz
    simp only [Prod.mk.injEq] at hz
    obtain ⟨rfl, rfl⟩ := hz
    have hd : (k != 0) = true := by simpa using h0
    go_enter Try.func9, Try.ntmps9
    go_wp2_with fail
    refine (HC.out _ hbx).mono ?_
    rintro e w1 ⟨rfl, hb1⟩
    go_wp2
    go_ret2
    exact ⟨rfl, hbx.trans (hb1.mono hbx.size)⟩
end Go.Proofs.Ytldpidononmfeaa

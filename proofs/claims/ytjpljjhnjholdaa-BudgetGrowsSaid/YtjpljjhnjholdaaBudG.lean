/- Layer 18: the law BudgetGrows. -/
import Derived.Test.YtjpljjhnjholdaaBudG1
set_option linter.unusedVariables false
set_option linter.unusedSimpArgs false
namespace Go.Proofs.Ytjpljjhnjholdaa
open Go.RowKit

set_option maxRecDepth 100000 in
set_option maxHeartbeats 4000000 in
theorem lawGrows_any (x : Cf) (A : Option Addr) (n c : Nat) (w : World) (hr : Rd w w.heap.size 2 A n (stCells x.ss)) (hl : x.ss.length = n) (hn : n ≤ maxLen) :
    Calls Try.prog 5 #[cfV A n c x] w fun e w' => e = .returned (.bool true) ∧ Below w.heap.size w w' := by
  obtain ⟨ck, hck⟩ : ∃ ck, checkZ x = ck := ⟨_, rfl⟩
  obtain ⟨u, hu⟩ : ∃ u, unitZ x = u := ⟨_, rfl⟩
  obtain ⟨t, ht⟩ : ∃ t, attZ x = t := ⟨_, rfl⟩
  obtain ⟨t2, ht2⟩ : ∃ t, attZ (more x) = t := ⟨_, rfl⟩
  have HCK := Lib.hid (fun (W : World) (h : Below w.heap.size w W) => rcheck_any x A n c _ ck W (hr.below h (Nat.le_refl _)) hl hn hck)
  have HU := Lib.hid (fun (W : World) (h : Below w.heap.size w W) => unit_any x A n c _ u W (hr.below h (Nat.le_refl _)) hl hn hu)
  have HA := Lib.hid (fun (W : World) (h : Below w.heap.size w W) => att_any x A n c _ t W (hr.below h (Nat.le_refl _)) hl hn ht)
  have HA2 := Lib.hid (fun (W : World) (h : Below w.heap.size w W) => att_any (more x) A n c _ t2 W (hr.below h (Nat.le_refl _)) hl hn ht2)
  have hub := unit_bd x
  rw [hu] at hub
  have hok : ck = 0 → _ := fun h => check_ok (x := x) (by rw [hck]; exact h)
  rw [hl] at hok
  have htb : ck = 0 → 0 < t ∧ t ≤ 346734648 := fun h => by rw [← ht]; exact att_bd (by rw [hck]; exact h)
  have htm : ck = 0 → x.la ≠ 247 → t2 = t + (x.re + 1) * n * u := fun h h2 => by rw [← ht2, more_att (by rw [hck]; exact h) h2, ht, hu, hl]
  have hr0 := hr
  have hl0 := hl
  have hn0 := hn
  have hck0 := hck
  clear hr hl hck hu ht ht2
  unfold maxLen at hn
  have HB0 := Lib.hid (Box.alloc_ (w := w) (cs := #[.slice A n c, .int .i64 x.fi, .int .i64 x.la, .int .i64 x.re, .int .i64 x.ti, .int .i64 x.de, .int .i64 x.w0f, .int .i64 x.w0c, .int .i64 x.w1f, .int .i64 x.w1c, .int .i64 x.w2f, .int .i64 x.w2c, .int .i64 x.w3f, .int .i64 x.w3c, .int .i64 x.ev, .int .i64 x.st]) (e := 33))
  have hb0 : Below w.heap.size w (w.alloc (.cells #[.slice A n c, .int .i64 x.fi, .int .i64 x.la, .int .i64 x.re, .int .i64 x.ti, .int .i64 x.de, .int .i64 x.w0f, .int .i64 x.w0c, .int .i64 x.w1f, .int .i64 x.w1c, .int .i64 x.w2f, .int .i64 x.w2c, .int .i64 x.w3f, .int .i64 x.w3c, .int .i64 x.ev, .int .i64 x.st] 33)) := (Below.refl _ _).alloc (Nat.le_refl _) _
  by_cases h0 : ck = 0
  · by_cases h1 : x.la = 247
    · have hd2 : (x.la == 247) = true := by simpa using h1
      subst h0
      clear hok htb htm h1 hr0 hl0 hn0 hck0
      go_enter Try.func5, Try.ntmps5
      go_wp2_with fail
      refine (HCK.out _ hb0).mono ?_
      rintro e w1 ⟨rfl, hb1⟩
      have hbw1 := hb0.trans (hb1.mono hb0.size)
      obtain ⟨q, z, l1⟩ := HB0.out.below hb1
      clear hb1
      go_wp2_with fail
      refine (awake_any _).mono ?_
      rintro e w2 ⟨rfl, hb2⟩
      go_wp2
      go_ret
      exact ⟨rfl, ext_trans hbw1 hb2⟩
    · exact lawGrows_1 x A n c w hr0 hl0 hn0 (by rw [hck0]; exact h0) h1
  · have hd : (ck != 0) = true := by simpa using h0
    clear hok htb htm h0 hr0 hl0 hn0 hck0
    go_enter Try.func5, Try.ntmps5
    go_wp2_with fail
    refine (HCK.out _ hb0).mono ?_
    rintro e w1 ⟨rfl, hb1⟩
    have hbw1 := hb0.trans (hb1.mono hb0.size)
    clear hb1
    go_wp2_with fail
    refine (awake_any _).mono ?_
    rintro e w2 ⟨rfl, hb2⟩
    go_wp2
    go_ret
    exact ⟨rfl, ext_trans hbw1 hb2⟩
end Go.Proofs.Ytjpljjhnjholdaa

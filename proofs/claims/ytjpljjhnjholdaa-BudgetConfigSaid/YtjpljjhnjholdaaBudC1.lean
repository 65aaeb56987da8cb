/- Layer 18: the law BudgetConfig (printed by budl2.py). -/
import Derived.Test.YtjpljjhnjholdaaBudU
import Derived.Test.YtjpljjhnjholdaaOpenCB
import Derived.Test.YtjpljjhnjholdaaBudL
set_option linter.unusedVariables false
set_option linter.unusedSimpArgs false
namespace Go.Proofs.Ytjpljjhnjholdaa
open Go.RowKit

set_option maxRecDepth 100000 in
set_option maxHeartbeats 4000000 in
theorem lawConfig_1 (x : Cf) (A : Option Addr) (n c : Nat) (w : World) (hr : Rd w w.heap.size 2 A n (stCells x.ss)) (hl : x.ss.length = n) (hn : n ≤ maxLen) (h10 : 10 < n) :
    Calls Try.prog 6 #[cfV A n c x] w fun e w' => e = .returned (.bool true) ∧ Below w.heap.size w w' := by
  obtain ⟨ck, hck⟩ : ∃ ck, checkZ x = ck := ⟨_, rfl⟩
  obtain ⟨u, hu⟩ : ∃ u, unitZ x = u := ⟨_, rfl⟩
  obtain ⟨t, ht⟩ : ∃ t, attZ x = t := ⟨_, rfl⟩
  obtain ⟨l, hlo⟩ : ∃ l, lostZ x = l := ⟨_, rfl⟩
  have HCK := Lib.hid (fun (W : World) (h : Below w.heap.size w W) => rcheck_any x A n c _ ck W (hr.below h (Nat.le_refl _)) hl hn hck)
  have HU := Lib.hid (fun (W : World) (h : Below w.heap.size w W) => unit_any x A n c _ u W (hr.below h (Nat.le_refl _)) hl hn hu)
  have HRU := Lib.hid (fun (W : World) (h : Below w.heap.size w W) => runit_any x A n c _ u W (hr.below h (Nat.le_refl _)) hl hn hu)
  have HA := Lib.hid (fun (W : World) (h : Below w.heap.size w W) => att_any x A n c _ t W (hr.below h (Nat.le_refl _)) hl hn ht)
  have HRA := Lib.hid (fun (h0 : ck = 0) (W : World) (h : Below w.heap.size w W) => ratt_any x A n c _ t W (hr.below h (Nat.le_refl _)) hl hn (by rw [hck, h0]) ht)
  have HL := Lib.hid (fun (W : World) (h : Below w.heap.size w W) => lost_any x A n c _ l W (hr.below h (Nat.le_refl _)) hl hn hlo)
  have HRL := Lib.hid (fun (W : World) (h : Below w.heap.size w W) => rlost_any x A n c _ l W (hr.below h (Nat.le_refl _)) hl hn hlo)
  have ht0 : ck ≠ 0 → t = 0 := fun h => by rw [← ht, attZ, if_neg (by rw [hck]; exact h)]
  clear hr hl hck hu ht hlo
  unfold maxLen at hn
  have HB0 := Lib.hid (Box.alloc_ (w := w) (cs := #[.slice A n c, .int .i64 x.fi, .int .i64 x.la, .int .i64 x.re, .int .i64 x.ti, .int .i64 x.de, .int .i64 x.w0f, .int .i64 x.w0c, .int .i64 x.w1f, .int .i64 x.w1c, .int .i64 x.w2f, .int .i64 x.w2c, .int .i64 x.w3f, .int .i64 x.w3c, .int .i64 x.ev, .int .i64 x.st]) (e := 33))
  have hb0 : Below w.heap.size w (w.alloc (.cells #[.slice A n c, .int .i64 x.fi, .int .i64 x.la, .int .i64 x.re, .int .i64 x.ti, .int .i64 x.de, .int .i64 x.w0f, .int .i64 x.w0c, .int .i64 x.w1f, .int .i64 x.w1c, .int .i64 x.w2f, .int .i64 x.w2c, .int .i64 x.w3f, .int .i64 x.w3c, .int .i64 x.ev, .int .i64 x.st] 33)) := (Below.refl _ _).alloc (Nat.le_refl _) _
  go_enter Try.func6, Try.ntmps6
  go_wp2_with fail
  refine (awake_any _).mono ?_
  rintro e w1 ⟨rfl, hb1⟩
  go_wp2
  go_ret
  exact ⟨rfl, hb0.trans (hb1.mono hb0.size)⟩
end Go.Proofs.Ytjpljjhnjholdaa

/- Layer 18: the law BudgetGrows. -/
import Derived.Test.YtjpljjhnjholdaaBudG0
set_option linter.unusedVariables false
set_option linter.unusedSimpArgs false
namespace Go.Proofs.Ytjpljjhnjholdaa
open Go.RowKit

set_option maxRecDepth 100000 in
set_option maxHeartbeats 4000000 in
theorem lawGrows_1 (x : Cf) (A : Option Addr) (n c : Nat) (w : World) (hr : Rd w w.heap.size 2 A n (stCells x.ss)) (hl : x.ss.length = n) (hn : n ≤ maxLen) (h0' : checkZ x = 0) (h1 : ¬ x.la = 247) :
    Calls Try.prog 5 #[cfV A n c x] w fun e w' => e = .returned (.bool true) ∧ Below w.heap.size w w' := by
  obtain ⟨ck, hck⟩ : ∃ ck, checkZ x = ck := ⟨_, rfl⟩
  obtain ⟨u, hu⟩ : ∃ u, unitZ x = u := ⟨_, rfl⟩
  obtain ⟨t, ht⟩ : ∃ t, attZ x = t := ⟨_, rfl⟩
  obtain ⟨t2, ht2⟩ : ∃ t, attZ (more x) = t := ⟨_, rfl⟩
  have HCK := Lib.hid (fun (W : World) (h : Below w.heap.size w W) => rcheck_any x A n c _ ck W (hr.below h (Nat.le_refl _)) hl hn hck)
  have HU := Lib.hid (fun (W : World) (h : Below w.heap.size w W) => unit_any x A n c _ u W (hr.below h (Nat.le_refl _)) hl hn hu)
  have HA := Lib.hid (fun (W : World) (h : Below w.heap.size w W) => att_any x A n c _ t W (hr.below h (Nat.le_refl _)) hl hn ht)
  have HA2 := Lib.hid (fun (W : World) (h : Below w.heap.size w W) => att_any (more x) A n c _ t2 W (hr.below h (Nat.le_refl _)) hl hn ht2)
  have hub := unit_bd x
  rw [hu] at hub
  have hok : ck = 0 → _ := fun h => check_ok (x := x) (by rw [hck]; exact h)
  rw [hl] at hok
  have htb : ck = 0 → 0 < t ∧ t ≤ 346734648 := fun h => by rw [← ht]; exact att_bd (by rw [hck]; exact h)
  have htm : ck = 0 → x.la ≠ 247 → t2 = t + (x.re + 1) * n * u := fun h h2 => by rw [← ht2, more_att (by rw [hck]; exact h) h2, ht, hu, hl]
  have h0 : ck = 0 := by rw [← hck]; exact h0'
  clear h0' hr hl hck hu ht ht2
  unfold maxLen at hn
  have HB0 := Lib.hid (Box.alloc_ (w := w) (cs := #[.slice A n c, .int .i64 x.fi, .int .i64 x.la, .int .i64 x.re, .int .i64 x.ti, .int .i64 x.de, .int .i64 x.w0f, .int .i64 x.w0c, .int .i64 x.w1f, .int .i64 x.w1c, .int .i64 x.w2f, .int .i64 x.w2c, .int .i64 x.w3f, .int .i64 x.w3c, .int .i64 x.ev, .int .i64 x.st]) (e := 33))
  have hb0 : Below w.heap.size w (w.alloc (.cells #[.slice A n c, .int .i64 x.fi, .int .i64 x.la, .int .i64 x.re, .int .i64 x.ti, .int .i64 x.de, .int .i64 x.w0f, .int .i64 x.w0c, .int .i64 x.w1f, .int .i64 x.w1c, .int .i64 x.w2f, .int .i64 x.w2c, .int .i64 x.w3f, .int .i64 x.w3c, .int .i64 x.ev, .int .i64 x.st] 33)) := (Below.refl _ _).alloc (Nat.le_refl _) _
  have hd2 : (x.la == 247) = false := by simpa using h1
  obtain ⟨g1, g2, g3, g4, g5, g6, g7, _⟩ := hok h0
  obtain ⟨b1, b2⟩ := htb h0
  have htm2 := htm h0 h1
  have HTM := Lib.hid htm2
  have e1 : (0 : Int) ≤ (x.re + 1) * n := Int.mul_nonneg (by omega) (by omega)
  have e2 : (x.re + 1) * n ≤ 6 * 6 := Int.mul_le_mul (by omega) (by omega) (by omega) (by omega)
  have e3 : (0 : Int) ≤ (x.re + 1) * n * u := Int.mul_nonneg e1 (by omega)
  have e4 : (x.re + 1) * n * u ≤ 6 * 6 * 38994 := Int.mul_le_mul e2 (by omega) (by omega) (by omega)
  have f0 : IntKind.i64.wrap (x.re + 1) = x.re + 1 := IntWalk.i64_in _ ⟨by omega, by omega⟩
  have f1 : IntKind.i64.wrap ((x.re + 1) * n) = (x.re + 1) * n := IntWalk.i64_in _ ⟨by omega, by omega⟩
  have f2 : IntKind.i64.wrap ((x.re + 1) * n * u) = (x.re + 1) * n * u := IntWalk.i64_in _ ⟨by omega, by omega⟩
  have f3 : IntKind.i64.wrap (t + (x.re + 1) * n * u) = t2 := by rw [htm2]; exact IntWalk.i64_in _ ⟨by omega, by omega⟩
  have f4 : decide (0 < t) = true := by simpa using b1
  have f5 : decide (t < 1099511627776) = true := by simp; omega
  have hlab : x.la ≤ 246 := by omega
  have hlab0 : 1 ≤ x.la := by omega
  subst h0
  have HF0 := Lib.hid f0
  have HF1 := Lib.hid f1
  have HF2 := Lib.hid f2
  have HF3 := Lib.hid f3
  clear hok htb htm h1 htm2 f0 f1 f2 f3 e1 e2 e3 e4
  go_enter Try.func5, Try.ntmps5
  go_wp2_with fail
  refine (HCK.out _ hb0).mono ?_
  rintro e w1 ⟨rfl, hb1⟩
  have HB1 := Lib.hid (HB0.out.below hb1)
  have hbw1 := hb0.trans (hb1.mono hb0.size)
  obtain ⟨q, z, l1⟩ := HB1.out
  clear hb1 hb0 HB0
  obtain ⟨g, hg⟩ : ∃ g, w1.heap.size = g := ⟨_, rfl⟩
  have hgw : w.heap.size ≤ g := hg ▸ hbw1.size
  have HB3 := Lib.hid (show Box (w1.alloc (.cells #[.slice A n c, .int .i64 x.fi, .int .i64 x.la, .int .i64 x.re, .int .i64 x.ti, .int .i64 x.de, .int .i64 x.w0f, .int .i64 x.w0c, .int .i64 x.w1f, .int .i64 x.w1c, .int .i64 x.w2f, .int .i64 x.w2c, .int .i64 x.w3f, .int .i64 x.w3c, .int .i64 x.ev, .int .i64 x.st] 33)) g #[.slice A n c, .int .i64 x.fi, .int .i64 x.la, .int .i64 x.re, .int .i64 x.ti, .int .i64 x.de, .int .i64 x.w0f, .int .i64 x.w0c, .int .i64 x.w1f, .int .i64 x.w1c, .int .i64 x.w2f, .int .i64 x.w2c, .int .i64 x.w3f, .int .i64 x.w3c, .int .i64 x.ev, .int .i64 x.st] from hg ▸ Box.alloc_)
  have hb3 : Below w1.heap.size w1 (w1.alloc (.cells #[.slice A n c, .int .i64 x.fi, .int .i64 (x.la + 1), .int .i64 x.re, .int .i64 x.ti, .int .i64 x.de, .int .i64 x.w0f, .int .i64 x.w0c, .int .i64 x.w1f, .int .i64 x.w1c, .int .i64 x.w2f, .int .i64 x.w2c, .int .i64 x.w3f, .int .i64 x.w3c, .int .i64 x.ev, .int .i64 x.st] 33)) := (Below.refl _ _).alloc (Nat.le_refl _) _
  have HB4 := Lib.hid (show Box (w1.alloc (.cells #[.slice A n c, .int .i64 x.fi, .int .i64 (x.la + 1), .int .i64 x.re, .int .i64 x.ti, .int .i64 x.de, .int .i64 x.w0f, .int .i64 x.w0c, .int .i64 x.w1f, .int .i64 x.w1c, .int .i64 x.w2f, .int .i64 x.w2c, .int .i64 x.w3f, .int .i64 x.w3c, .int .i64 x.ev, .int .i64 x.st] 33)) g #[.slice A n c, .int .i64 x.fi, .int .i64 (x.la + 1), .int .i64 x.re, .int .i64 x.ti, .int .i64 x.de, .int .i64 x.w0f, .int .i64 x.w0c, .int .i64 x.w1f, .int .i64 x.w1c, .int .i64 x.w2f, .int .i64 x.w2c, .int .i64 x.w3f, .int .i64 x.w3c, .int .i64 x.ev, .int .i64 x.st] from hg ▸ Box.alloc_)
  obtain ⟨W2, hW2⟩ : ∃ W2, w1.alloc (.cells #[.slice A n c, .int .i64 x.fi, .int .i64 (x.la + 1), .int .i64 x.re, .int .i64 x.ti, .int .i64 x.de, .int .i64 x.w0f, .int .i64 x.w0c, .int .i64 x.w1f, .int .i64 x.w1c, .int .i64 x.w2f, .int .i64 x.w2c, .int .i64 x.w3f, .int .i64 x.w3c, .int .i64 x.ev, .int .i64 x.st] 33) = W2 := ⟨_, rfl⟩
  go_wp2_with fail
  try rw [hW2]
  rw [hW2] at HB4 hb3
  have HB := Lib.hid (HB1.out.below hb3)
  have hbw0 := ext_trans hbw1 hb3
  have hbc0 : Below W2.heap.size W2 W2.drew := below_drew (Below.refl _ _)
  clear HB3 hW2 hg q z l1
  have hc3 : ∀ W, Below W2.heap.size W2 W → W.cell? ⟨w.heap.size, 3, none⟩ = some (.int .i64 x.re) ∧ W.cell? ⟨w.heap.size, 0, none⟩ = some (.slice A n c) := fun W h => ⟨(HB.out.below h).1 3, (HB.out.below h).1 0⟩
  have HC3 := Lib.hid hc3
  have HLd := Lib.hid (fun (W : World) (h : Below W2.heap.size W2 W) => ld_of x A n c w.heap.size W ((HB.out.below h).1))
  have HLe := Lib.hid (fun (W : World) (h : Below W2.heap.size W2 W) => ld_of (more x) A n c g W ((HB4.out.below h).1))
  unfold cfV at HU HA HLd
  unfold cfV more at HA2 HLe
  dsimp only at HA2 HLe
  generalize Value.agg (#[.slice A n c, .int .i64 x.fi, .int .i64 x.la, .int .i64 x.re, .int .i64 x.ti, .int .i64 x.de, .int .i64 x.w0f, .int .i64 x.w0c, .int .i64 x.w1f, .int .i64 x.w1c, .int .i64 x.w2f, .int .i64 x.w2c, .int .i64 x.w3f, .int .i64 x.w3c, .int .i64 x.ev, .int .i64 x.st] : Array Value) = V at HU HA HLd ⊢
  generalize Value.agg (#[.slice A n c, .int .i64 x.fi, .int .i64 (x.la + 1), .int .i64 x.re, .int .i64 x.ti, .int .i64 x.de, .int .i64 x.w0f, .int .i64 x.w0c, .int .i64 x.w1f, .int .i64 x.w1c, .int .i64 x.w2f, .int .i64 x.w2c, .int .i64 x.w3f, .int .i64 x.w3c, .int .i64 x.ev, .int .i64 x.st] : Array Value) = V2 at HA2 HLe ⊢
  clear HB HB4 hc3 HCK
  have hS : LdC w.heap.size V W2.drew ∧ LdC g V2 W2.drew ∧ (W2.drew.cell? ⟨w.heap.size, 3, none⟩ = some (.int .i64 x.re) ∧ W2.drew.cell? ⟨w.heap.size, 0, none⟩ = some (.slice A n c)) := ⟨HLd.out _ hbc0, HLe.out _ hbc0, HC3.out _ hbc0⟩
  refine rgs_start (fun w' => LdC w.heap.size V w' ∧ LdC g V2 w' ∧ (w'.cell? ⟨w.heap.size, 3, none⟩ = some (.int .i64 x.re) ∧ w'.cell? ⟨w.heap.size, 0, none⟩ = some (.slice A n c))) (by kernel_rfl) ?_
  refine rgs_t (v := V) (some 20) 0 (by kernel_rfl) rfl rfl (by assumption) (.inl ⟨by rfl, fun w' hw => ld_run hw.1 rfl rfl⟩) ?_
  try simp only [Act.put, List.setIfInBounds_toArray, List.set_cons_zero, List.set_cons_succ]
  refine rgs_t (v := V2) (some 22) 2 (by kernel_rfl) rfl rfl (by assumption) (.inl ⟨by rfl, fun w' hw => ld_run hw.2.1 rfl rfl⟩) ?_
  try simp only [Act.put, List.setIfInBounds_toArray, List.set_cons_zero, List.set_cons_succ]
  refine rgs_c 1 (by kernel_rfl) rfl (by rfl) (fun K hK => ?_)
  go_simp
  refine (HA.out _ (ext_trans hbw0 hbc0)).mono ?_
  rintro e x1 ⟨rfl, hb1⟩
  have hbc1 := ext_trans hbc0 hb1
  have hS1 : LdC w.heap.size V x1 ∧ LdC g V2 x1 ∧ (x1.cell? ⟨w.heap.size, 3, none⟩ = some (.int .i64 x.re) ∧ x1.cell? ⟨w.heap.size, 0, none⟩ = some (.slice A n c)) := ⟨HLd.out _ hbc1, HLe.out _ hbc1, HC3.out _ hbc1⟩
  refine hK _ _ hS1 ?_
  clear hK K
  try simp only [Act.put, List.setIfInBounds_toArray, List.set_cons_zero, List.set_cons_succ]
  refine rgs_c 3 (by kernel_rfl) rfl (by rfl) (fun K hK => ?_)
  go_simp
  refine (HA2.out _ (ext_trans hbw0 hbc1)).mono ?_
  rintro e x2 ⟨rfl, hb2⟩
  have hbc2 := ext_trans hbc1 hb2
  have hS2 : LdC w.heap.size V x2 ∧ LdC g V2 x2 ∧ (x2.cell? ⟨w.heap.size, 3, none⟩ = some (.int .i64 x.re) ∧ x2.cell? ⟨w.heap.size, 0, none⟩ = some (.slice A n c)) := ⟨HLd.out _ hbc2, HLe.out _ hbc2, HC3.out _ hbc2⟩
  refine hK _ _ hS2 ?_
  clear hK K
  try simp only [Act.put, List.setIfInBounds_toArray, List.set_cons_zero, List.set_cons_succ]
  refine rgs_t (v := ?_) (some 4) 4 (by kernel_rfl) rfl rfl (by assumption) (.inl ⟨by rfl, fun w' hw => ?_⟩) ?_
  rotate_left
  · obtain ⟨q1, q2, q3⟩ := hw; go_simp <;> with_reducible rfl
  try simp only [Act.put, List.setIfInBounds_toArray, List.set_cons_zero, List.set_cons_succ]
  refine rgs_t (v := ?_) (some 5) 5 (by kernel_rfl) rfl rfl (by assumption) (.inl ⟨by rfl, fun w' hw => ?_⟩) ?_
  rotate_left
  · obtain ⟨q1, q2, q3⟩ := hw; go_simp <;> with_reducible rfl
  try simp only [Act.put, List.setIfInBounds_toArray, List.set_cons_zero, List.set_cons_succ]
  refine rgs_d (by kernel_rfl) ?_
  go_wp2_with fail
  have hbd : Below W2.heap.size W2 x2.drew := below_drew hbc2
  have hS : LdC w.heap.size V x2.drew ∧ LdC g V2 x2.drew ∧ (x2.drew.cell? ⟨w.heap.size, 3, none⟩ = some (.int .i64 x.re) ∧ x2.drew.cell? ⟨w.heap.size, 0, none⟩ = some (.slice A n c)) := ⟨HLd.out _ hbd, HLe.out _ hbd, HC3.out _ hbd⟩
  have f0 := HF0.out
  have f1 := HF1.out
  have f2 := HF2.out
  have f3 := HF3.out
  refine rgs_start (fun w' => LdC w.heap.size V w' ∧ LdC g V2 w' ∧ (w'.cell? ⟨w.heap.size, 3, none⟩ = some (.int .i64 x.re) ∧ w'.cell? ⟨w.heap.size, 0, none⟩ = some (.slice A n c))) (by kernel_rfl) ?_
  refine rgs_c 0 (by kernel_rfl) rfl (by rfl) (fun K hK => ?_)
  go_simp
  refine (awake_any _).mono ?_
  rintro e x3 ⟨rfl, hb3⟩
  have hbc3 := ext_trans hbd hb3
  have hS3 : LdC w.heap.size V x3 ∧ LdC g V2 x3 ∧ (x3.cell? ⟨w.heap.size, 3, none⟩ = some (.int .i64 x.re) ∧ x3.cell? ⟨w.heap.size, 0, none⟩ = some (.slice A n c)) := ⟨HLd.out _ hbc3, HLe.out _ hbc3, HC3.out _ hbc3⟩
  refine hK _ _ hS3 ?_
  clear hK K
  try simp only [Act.put, List.setIfInBounds_toArray, List.set_cons_zero, List.set_cons_succ]
  refine rgs_t (v := ?_) (some 25) 1 (by kernel_rfl) rfl rfl (by assumption) (.inl ⟨by rfl, fun w' hw => ?_⟩) ?_
  rotate_left
  · obtain ⟨q1, q2, q3⟩ := hw; go_simp <;> with_reducible rfl
  try simp only [Act.put, List.setIfInBounds_toArray, List.set_cons_zero, List.set_cons_succ]
  refine rgs_t (v := ?_) (some 26) 2 (by kernel_rfl) rfl rfl (by assumption) (.inl ⟨by rfl, fun w' hw => ?_⟩) ?_
  rotate_left
  · obtain ⟨q1, q2, q3⟩ := hw; go_simp <;> with_reducible rfl
  try simp only [Act.put, List.setIfInBounds_toArray, List.set_cons_zero, List.set_cons_succ]
  refine rgs_t (v := ?_) (some 27) 3 (by kernel_rfl) rfl rfl (by assumption) (.inl ⟨by rfl, fun w' hw => ?_⟩) ?_
  rotate_left
  · obtain ⟨q1, q2, q3⟩ := hw; go_simp <;> with_reducible rfl
  try simp only [Act.put, List.setIfInBounds_toArray, List.set_cons_zero, List.set_cons_succ]
  refine rgs_t (v := ?_) (some 28) 4 (by kernel_rfl) rfl rfl (by assumption) (.inl ⟨by rfl, fun w' hw => ?_⟩) ?_
  rotate_left
  · obtain ⟨q1, q2, q3⟩ := hw; go_simp <;> with_reducible rfl
  try simp only [Act.put, List.setIfInBounds_toArray, List.set_cons_zero, List.set_cons_succ]
  refine rgs_t (v := ?_) (some 29) 5 (by kernel_rfl) rfl rfl (by assumption) (.inl ⟨by rfl, fun w' hw => ?_⟩) ?_
  rotate_left
  · obtain ⟨q1, q2, q3⟩ := hw; go_simp <;> with_reducible rfl
  try simp only [Act.put, List.setIfInBounds_toArray, List.set_cons_zero, List.set_cons_succ]
  refine rgs_t (v := ?_) (some 30) 6 (by kernel_rfl) rfl rfl (by assumption) (.inl ⟨by rfl, fun w' hw => ?_⟩) ?_
  rotate_left
  · obtain ⟨q1, q2, q3⟩ := hw; go_simp <;> with_reducible rfl
  try simp only [Act.put, List.setIfInBounds_toArray, List.set_cons_zero, List.set_cons_succ]
  refine rgs_t (v := ?_) (some 31) 7 (by kernel_rfl) rfl rfl (by assumption) (.inl ⟨by rfl, fun w' hw => ?_⟩) ?_
  rotate_left
  · obtain ⟨q1, q2, q3⟩ := hw; go_simp <;> with_reducible rfl
  try simp only [Act.put, List.setIfInBounds_toArray, List.set_cons_zero, List.set_cons_succ]
  refine rgs_t (v := ?_) (some 32) 8 (by kernel_rfl) rfl rfl (by assumption) (.inl ⟨by rfl, fun w' hw => ?_⟩) ?_
  rotate_left
  · obtain ⟨q1, q2, q3⟩ := hw; go_simp <;> with_reducible rfl
  try simp only [Act.put, List.setIfInBounds_toArray, List.set_cons_zero, List.set_cons_succ]
  refine rgs_t (v := ?_) (some 33) 9 (by kernel_rfl) rfl rfl (by assumption) (.inl ⟨by rfl, fun w' hw => ?_⟩) ?_
  rotate_left
  · obtain ⟨q1, q2, q3⟩ := hw; go_simp <;> with_reducible rfl
  try simp only [Act.put, List.setIfInBounds_toArray, List.set_cons_zero, List.set_cons_succ]
  refine rgs_t (v := ?_) (some 34) 10 (by kernel_rfl) rfl rfl (by assumption) (.inl ⟨by rfl, fun w' hw => ?_⟩) ?_
  rotate_left
  · obtain ⟨q1, q2, q3⟩ := hw; go_simp <;> with_reducible rfl
  try simp only [Act.put, List.setIfInBounds_toArray, List.set_cons_zero, List.set_cons_succ]
  refine rgs_t (v := ?_) (some 35) 11 (by kernel_rfl) rfl rfl (by assumption) (.inl ⟨by rfl, fun w' hw => ?_⟩) ?_
  rotate_left
  · obtain ⟨q1, q2, q3⟩ := hw; go_simp <;> with_reducible rfl
  try simp only [Act.put, List.setIfInBounds_toArray, List.set_cons_zero, List.set_cons_succ]
  refine rgs_t (v := ?_) (some 36) 12 (by kernel_rfl) rfl rfl (by assumption) (.inl ⟨by rfl, fun w' hw => ?_⟩) ?_
  rotate_left
  · obtain ⟨q1, q2, q3⟩ := hw; go_simp <;> with_reducible rfl
  try simp only [Act.put, List.setIfInBounds_toArray, List.set_cons_zero, List.set_cons_succ]
  refine rgs_t (v := ?_) (some 37) 13 (by kernel_rfl) rfl rfl (by assumption) (.inl ⟨by rfl, fun w' hw => ?_⟩) ?_
  rotate_left
  · obtain ⟨q1, q2, q3⟩ := hw; go_simp <;> with_reducible rfl
  try simp only [Act.put, List.setIfInBounds_toArray, List.set_cons_zero, List.set_cons_succ]
  refine rgs_t (v := ?_) (some 38) 14 (by kernel_rfl) rfl rfl (by assumption) (.inl ⟨by rfl, fun w' hw => ?_⟩) ?_
  rotate_left
  · obtain ⟨q1, q2, q3⟩ := hw; go_simp <;> with_reducible rfl
  try simp only [Act.put, List.setIfInBounds_toArray, List.set_cons_zero, List.set_cons_succ]
  refine rgs_t (v := ?_) (some 39) 15 (by kernel_rfl) rfl rfl (by assumption) (.inl ⟨by rfl, fun w' hw => ?_⟩) ?_
  rotate_left
  · obtain ⟨q1, q2, q3⟩ := hw; go_simp <;> with_reducible rfl
  try simp only [Act.put, List.setIfInBounds_toArray, List.set_cons_zero, List.set_cons_succ]
  refine rgs_t (v := ?_) (some 40) 16 (by kernel_rfl) rfl rfl (by assumption) (.inl ⟨by rfl, fun w' hw => ?_⟩) ?_
  rotate_left
  · obtain ⟨q1, q2, q3⟩ := hw; go_simp <;> with_reducible rfl
  try simp only [Act.put, List.setIfInBounds_toArray, List.set_cons_zero, List.set_cons_succ]
  refine rgs_t (v := ?_) (some 41) 17 (by kernel_rfl) rfl rfl (by assumption) (.inl ⟨by rfl, fun w' hw => ?_⟩) ?_
  rotate_left
  · obtain ⟨q1, q2, q3⟩ := hw; go_simp <;> with_reducible rfl
  try simp only [Act.put, List.setIfInBounds_toArray, List.set_cons_zero, List.set_cons_succ]
  refine rgs_t (v := ?_) (some 42) 18 (by kernel_rfl) rfl rfl (by assumption) (.inl ⟨by rfl, fun w' hw => ?_⟩) ?_
  rotate_left
  · obtain ⟨q1, q2, q3⟩ := hw; go_simp <;> with_reducible rfl
  try simp only [Act.put, List.setIfInBounds_toArray, List.set_cons_zero, List.set_cons_succ]
  refine rgs_t (v := V) (some 43) 19 (by kernel_rfl) rfl rfl (by assumption) (.inl ⟨by rfl, fun w' hw => ld_run hw.1 rfl rfl⟩) ?_
  try simp only [Act.put, List.setIfInBounds_toArray, List.set_cons_zero, List.set_cons_succ]
  refine rgs_c 20 (by kernel_rfl) rfl (by rfl) (fun K hK => ?_)
  go_simp
  refine (HU.out _ (ext_trans hbw0 hbc3)).mono ?_
  rintro e x4 ⟨rfl, hb4⟩
  have hbc4 := ext_trans hbc3 hb4
  have hS4 : LdC w.heap.size V x4 ∧ LdC g V2 x4 ∧ (x4.cell? ⟨w.heap.size, 3, none⟩ = some (.int .i64 x.re) ∧ x4.cell? ⟨w.heap.size, 0, none⟩ = some (.slice A n c)) := ⟨HLd.out _ hbc4, HLe.out _ hbc4, HC3.out _ hbc4⟩
  refine hK _ _ hS4 ?_
  clear hK K
  try simp only [Act.put, List.setIfInBounds_toArray, List.set_cons_zero, List.set_cons_succ]
  refine rgs_t (v := ?_) (some 45) 21 (by kernel_rfl) rfl rfl (by assumption) (.inl ⟨by rfl, fun w' hw => ?_⟩) ?_
  rotate_left
  · obtain ⟨q1, q2, q3⟩ := hw; go_simp <;> with_reducible rfl
  try simp only [Act.put, List.setIfInBounds_toArray, List.set_cons_zero, List.set_cons_succ]
  refine rgs_t (v := ?_) (some 46) 22 (by kernel_rfl) rfl rfl (by assumption) (.inl ⟨by rfl, fun w' hw => ?_⟩) ?_
  rotate_left
  · obtain ⟨q1, q2, q3⟩ := hw; go_simp <;> with_reducible rfl
  try simp only [Act.put, List.setIfInBounds_toArray, List.set_cons_zero, List.set_cons_succ]
  refine rgs_t (v := ?_) (some 47) 23 (by kernel_rfl) rfl rfl (by assumption) (.inl ⟨by rfl, fun w' hw => ?_⟩) ?_
  rotate_left
  · obtain ⟨q1, q2, q3⟩ := hw; go_simp <;> with_reducible rfl
  try simp only [Act.put, List.setIfInBounds_toArray, List.set_cons_zero, List.set_cons_succ]
  refine rgs_t (v := ?_) (some 48) 24 (by kernel_rfl) rfl rfl (by assumption) (.inl ⟨by rfl, fun w' hw => ?_⟩) ?_
  rotate_left
  · obtain ⟨q1, q2, q3⟩ := hw; go_simp <;> with_reducible rfl
  try simp only [Act.put, List.setIfInBounds_toArray, List.set_cons_zero, List.set_cons_succ]
  refine rgs_t (v := ?_) (some 2) 25 (by kernel_rfl) rfl rfl (by assumption) (.inl ⟨by rfl, fun w' hw => ?_⟩) ?_
  rotate_left
  · obtain ⟨q1, q2, q3⟩ := hw; go_simp <;> with_reducible rfl
  try simp only [Act.put, List.setIfInBounds_toArray, List.set_cons_zero, List.set_cons_succ]
  refine rgs_d (by kernel_rfl) ?_
  go_wp2
  go_ret
  exact ⟨by first | rfl | simp, ext_trans hbw0 hbc4⟩
end Go.Proofs.Ytjpljjhnjholdaa

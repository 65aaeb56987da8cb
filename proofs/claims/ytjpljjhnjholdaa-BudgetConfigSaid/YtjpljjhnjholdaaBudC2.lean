/- Layer 18: the law BudgetConfig (printed by budl2.py). -/
import Derived.Test.YtjpljjhnjholdaaBudK
set_option linter.unusedVariables false
set_option linter.unusedSimpArgs false
namespace Go.Proofs.Ytjpljjhnjholdaa
open Go.RowKit

set_option maxRecDepth 100000 in
set_option maxHeartbeats 4000000 in
theorem lawConfig_2 (x : Cf) (A : Option Addr) (n c : Nat) (w : World) (hr : Rd w w.heap.size 2 A n (stCells x.ss)) (hl : x.ss.length = n) (hn : n ≤ maxLen) (h10 : ¬ 10 < n) (h0' : checkZ x = 0) :
    Calls Try.prog 6 #[cfV A n c x] w fun e w' => e = .returned (.bool true) ∧ Below w.heap.size w w' := by
  obtain ⟨ck, hck⟩ : ∃ ck, checkZ x = ck := ⟨_, rfl⟩
  obtain ⟨u, hu⟩ : ∃ u, unitZ x = u := ⟨_, rfl⟩
  obtain ⟨t, ht⟩ : ∃ t, attZ x = t := ⟨_, rfl⟩
  obtain ⟨l, hlo⟩ : ∃ l, lostZ x = l := ⟨_, rfl⟩
  have HCK := Lib.hid (fun (W : World) (h : Below w.heap.size w W) => rcheck_any x A n c _ ck W (hr.below h (Nat.le_refl _)) hl hn hck)
  have HU := Lib.hid (fun (W : World) (h : Below w.heap.size w W) => unit_any x A n c _ u W (hr.below h (Nat.le_refl _)) hl hn hu)
  have HRU := Lib.hid (fun (W : World) (h : Below w.heap.size w W) => runit_any x A n c _ u W (hr.below h (Nat.le_refl _)) hl hn hu)
  have HA := Lib.hid (fun (W : World) (h : Below w.heap.size w W) => att_any x A n c _ t W (hr.below h (Nat.le_refl _)) hl hn ht)
  have HRA := Lib.hid (fun (h0 : ck = 0) (W : World) (h : Below w.heap.size w W) => ratt_any x A n c _ t W (hr.below h (Nat.le_refl _)) hl hn (by rw [hck, h0]) ht)
  have HL := Lib.hid (fun (W : World) (h : Below w.heap.size w W) => lost_any x A n c _ l W (hr.below h (Nat.le_refl _)) hl hn hlo)
  have HRL := Lib.hid (fun (W : World) (h : Below w.heap.size w W) => rlost_any x A n c _ l W (hr.below h (Nat.le_refl _)) hl hn hlo)
  have ht0 : ck ≠ 0 → t = 0 := fun h => by rw [← ht, attZ, if_neg (by rw [hck]; exact h)]
  have h0 : ck = 0 := hck ▸ h0'
  clear hr hl h0' hck hu ht hlo
  unfold maxLen at hn
  have HB0 := Lib.hid (Box.alloc_ (w := w) (cs := #[.slice A n c, .int .i64 x.fi, .int .i64 x.la, .int .i64 x.re, .int .i64 x.ti, .int .i64 x.de, .int .i64 x.w0f, .int .i64 x.w0c, .int .i64 x.w1f, .int .i64 x.w1c, .int .i64 x.w2f, .int .i64 x.w2c, .int .i64 x.w3f, .int .i64 x.w3c, .int .i64 x.ev, .int .i64 x.st]) (e := 33))
  have hb0 : Below w.heap.size w (w.alloc (.cells #[.slice A n c, .int .i64 x.fi, .int .i64 x.la, .int .i64 x.re, .int .i64 x.ti, .int .i64 x.de, .int .i64 x.w0f, .int .i64 x.w0c, .int .i64 x.w1f, .int .i64 x.w1c, .int .i64 x.w2f, .int .i64 x.w2c, .int .i64 x.w3f, .int .i64 x.w3c, .int .i64 x.ev, .int .i64 x.st] 33)) := (Below.refl _ _).alloc (Nat.le_refl _) _
  subst h0
  go_enter Try.func6, Try.ntmps6
  go_wp2_with fail
  refine (HCK.out _ hb0).mono ?_
  rintro e w1 ⟨rfl, hb1⟩
  have HB1 := Lib.hid (HB0.out.below hb1)
  have hbw1 := hb0.trans (hb1.mono hb0.size)
  obtain ⟨q, z, l1⟩ := HB1.out
  clear hb1 hb0 HB0
  go_wp2_with fail
  refine (HRA.out (by first | rfl | trivial) _ hbw1).mono ?_
  rintro e w2 ⟨rfl, hb2⟩
  have HB := Lib.hid (HB1.out.below hb2)
  have hbw0 := ext_trans hbw1 hb2
  clear q z l1 hb2 HB1
  have hbc0 : Below w2.heap.size w2 w2.drew := below_drew (Below.refl _ _)
  go_wp2_with fail
  have hL0 := ld_of x A n c w.heap.size w2.drew HB.out.1
  have HLd := Lib.hid (fun (W : World) (h : Below w2.heap.size w2 W) => ld_of x A n c w.heap.size W ((HB.out.below h).1))
  unfold cfV at HU HRU HA HL HRL HLd hL0
  generalize Value.agg (#[.slice A n c, .int .i64 x.fi, .int .i64 x.la, .int .i64 x.re, .int .i64 x.ti, .int .i64 x.de, .int .i64 x.w0f, .int .i64 x.w0c, .int .i64 x.w1f, .int .i64 x.w1c, .int .i64 x.w2f, .int .i64 x.w2c, .int .i64 x.w3f, .int .i64 x.w3c, .int .i64 x.ev, .int .i64 x.st] : Array Value) = V at HU HRU HA HL HRL HLd hL0 ⊢
  clear HB HCK HRA
  have hS : LdC w.heap.size V w2.drew ∧ True ∧ True := ⟨hL0, trivial, trivial⟩
  refine rgs_start (fun w' => LdC w.heap.size V w' ∧ True ∧ True) (by kernel_rfl) ?_
  refine rgs_c 0 (by kernel_rfl) rfl (by rfl) (fun K hK => ?_)
  go_simp
  refine (awake_any _).mono ?_
  rintro e x1 ⟨rfl, hb1⟩
  have hbc1 := ext_trans hbc0 hb1
  have hS1 : LdC w.heap.size V x1 ∧ True ∧ True := ⟨HLd.out _ hbc1, trivial, trivial⟩
  refine hK _ _ hS1 ?_
  clear hK K
  try simp only [Act.put, List.setIfInBounds_toArray, List.set_cons_zero, List.set_cons_succ]
  refine rgs_t (v := ?_) (some 15) 1 (by kernel_rfl) rfl rfl (by assumption) (.inl ⟨by rfl, fun w' hw => ?_⟩) ?_
  rotate_left
  · obtain ⟨q1, q2, q3⟩ := hw; go_simp <;> with_reducible rfl
  try simp only [Act.put, List.setIfInBounds_toArray, List.set_cons_zero, List.set_cons_succ]
  refine rgs_t (v := V) (some 16) 2 (by kernel_rfl) rfl rfl (by assumption) (.inl ⟨by rfl, fun w' hw => ld_run hw.1 rfl rfl⟩) ?_
  try simp only [Act.put, List.setIfInBounds_toArray, List.set_cons_zero, List.set_cons_succ]
  refine rgs_t (v := V) (some 18) 4 (by kernel_rfl) rfl rfl (by assumption) (.inl ⟨by rfl, fun w' hw => ld_run hw.1 rfl rfl⟩) ?_
  try simp only [Act.put, List.setIfInBounds_toArray, List.set_cons_zero, List.set_cons_succ]
  refine rgs_c 3 (by kernel_rfl) rfl (by rfl) (fun K hK => ?_)
  go_simp
  refine (HU.out _ (ext_trans hbw0 hbc1)).mono ?_
  rintro e x2 ⟨rfl, hb2⟩
  have hbc2 := ext_trans hbc1 hb2
  have hS2 : LdC w.heap.size V x2 ∧ True ∧ True := ⟨HLd.out _ hbc2, trivial, trivial⟩
  refine hK _ _ hS2 ?_
  clear hK K
  try simp only [Act.put, List.setIfInBounds_toArray, List.set_cons_zero, List.set_cons_succ]
  refine rgs_c 5 (by kernel_rfl) rfl (by rfl) (fun K hK => ?_)
  go_simp
  refine (HRU.out _ (ext_trans hbw0 hbc2)).mono ?_
  rintro e x3 ⟨rfl, hb3⟩
  have hbc3 := ext_trans hbc2 hb3
  have hS3 : LdC w.heap.size V x3 ∧ True ∧ True := ⟨HLd.out _ hbc3, trivial, trivial⟩
  refine hK _ _ hS3 ?_
  clear hK K
  try simp only [Act.put, List.setIfInBounds_toArray, List.set_cons_zero, List.set_cons_succ]
  refine rgs_t (v := ?_) (some 20) 6 (by kernel_rfl) rfl rfl (by assumption) (.inl ⟨by rfl, fun w' hw => ?_⟩) ?_
  rotate_left
  · obtain ⟨q1, q2, q3⟩ := hw; go_simp <;> with_reducible rfl
  try simp only [Act.put, List.setIfInBounds_toArray, List.set_cons_zero, List.set_cons_succ]
  refine rgs_t (v := ?_) (some 21) 7 (by kernel_rfl) rfl rfl (by assumption) (.inl ⟨by rfl, fun w' hw => ?_⟩) ?_
  rotate_left
  · obtain ⟨q1, q2, q3⟩ := hw; go_simp <;> with_reducible rfl
  try simp only [Act.put, List.setIfInBounds_toArray, List.set_cons_zero, List.set_cons_succ]
  refine rgs_t (v := ?_) (some 22) 8 (by kernel_rfl) rfl rfl (by assumption) (.inl ⟨by rfl, fun w' hw => ?_⟩) ?_
  rotate_left
  · obtain ⟨q1, q2, q3⟩ := hw; go_simp <;> with_reducible rfl
  try simp only [Act.put, List.setIfInBounds_toArray, List.set_cons_zero, List.set_cons_succ]
  refine rgs_t (v := V) (some 23) 9 (by kernel_rfl) rfl rfl (by assumption) (.inl ⟨by rfl, fun w' hw => ld_run hw.1 rfl rfl⟩) ?_
  try simp only [Act.put, List.setIfInBounds_toArray, List.set_cons_zero, List.set_cons_succ]
  refine rgs_t (v := ?_) (some 25) 11 (by kernel_rfl) rfl rfl (by assumption) (.inl ⟨by rfl, fun w' hw => ?_⟩) ?_
  rotate_left
  · obtain ⟨q1, q2, q3⟩ := hw; go_simp <;> with_reducible rfl
  try simp only [Act.put, List.setIfInBounds_toArray, List.set_cons_zero, List.set_cons_succ]
  refine rgs_c 10 (by kernel_rfl) rfl (by rfl) (fun K hK => ?_)
  go_simp
  refine (HA.out _ (ext_trans hbw0 hbc3)).mono ?_
  rintro e x4 ⟨rfl, hb4⟩
  have hbc4 := ext_trans hbc3 hb4
  have hS4 : LdC w.heap.size V x4 ∧ True ∧ True := ⟨HLd.out _ hbc4, trivial, trivial⟩
  refine hK _ _ hS4 ?_
  clear hK K
  try simp only [Act.put, List.setIfInBounds_toArray, List.set_cons_zero, List.set_cons_succ]
  refine rgs_t (v := ?_) (some 26) 12 (by kernel_rfl) rfl rfl (by assumption) (.inl ⟨by rfl, fun w' hw => ?_⟩) ?_
  rotate_left
  · obtain ⟨q1, q2, q3⟩ := hw; go_simp <;> with_reducible rfl
  try simp only [Act.put, List.setIfInBounds_toArray, List.set_cons_zero, List.set_cons_succ]
  refine rgs_t (v := ?_) (some 27) 13 (by kernel_rfl) rfl rfl (by assumption) (.inl ⟨by rfl, fun w' hw => ?_⟩) ?_
  rotate_left
  · obtain ⟨q1, q2, q3⟩ := hw; go_simp <;> with_reducible rfl
  try simp only [Act.put, List.setIfInBounds_toArray, List.set_cons_zero, List.set_cons_succ]
  refine rgs_t (v := ?_) (some 28) 14 (by kernel_rfl) rfl rfl (by assumption) (.inl ⟨by rfl, fun w' hw => ?_⟩) ?_
  rotate_left
  · obtain ⟨q1, q2, q3⟩ := hw; go_simp <;> with_reducible rfl
  try simp only [Act.put, List.setIfInBounds_toArray, List.set_cons_zero, List.set_cons_succ]
  refine rgs_t (v := V) (some 29) 15 (by kernel_rfl) rfl rfl (by assumption) (.inl ⟨by rfl, fun w' hw => ld_run hw.1 rfl rfl⟩) ?_
  try simp only [Act.put, List.setIfInBounds_toArray, List.set_cons_zero, List.set_cons_succ]
  refine rgs_t (v := V) (some 31) 17 (by kernel_rfl) rfl rfl (by assumption) (.inl ⟨by rfl, fun w' hw => ld_run hw.1 rfl rfl⟩) ?_
  try simp only [Act.put, List.setIfInBounds_toArray, List.set_cons_zero, List.set_cons_succ]
  refine rgs_c 16 (by kernel_rfl) rfl (by rfl) (fun K hK => ?_)
  go_simp
  refine (HL.out _ (ext_trans hbw0 hbc4)).mono ?_
  rintro e x5 ⟨rfl, hb5⟩
  have hbc5 := ext_trans hbc4 hb5
  have hS5 : LdC w.heap.size V x5 ∧ True ∧ True := ⟨HLd.out _ hbc5, trivial, trivial⟩
  refine hK _ _ hS5 ?_
  clear hK K
  try simp only [Act.put, List.setIfInBounds_toArray, List.set_cons_zero, List.set_cons_succ]
  refine rgs_c 18 (by kernel_rfl) rfl (by rfl) (fun K hK => ?_)
  go_simp
  refine (HRL.out _ (ext_trans hbw0 hbc5)).mono ?_
  rintro e x6 ⟨rfl, hb6⟩
  have hbc6 := ext_trans hbc5 hb6
  have hS6 : LdC w.heap.size V x6 ∧ True ∧ True := ⟨HLd.out _ hbc6, trivial, trivial⟩
  refine hK _ _ hS6 ?_
  clear hK K
  try simp only [Act.put, List.setIfInBounds_toArray, List.set_cons_zero, List.set_cons_succ]
  refine rgs_t (v := ?_) (some 33) 19 (by kernel_rfl) rfl rfl (by assumption) (.inl ⟨by rfl, fun w' hw => ?_⟩) ?_
  rotate_left
  · obtain ⟨q1, q2, q3⟩ := hw; go_simp <;> with_reducible rfl
  try simp only [Act.put, List.setIfInBounds_toArray, List.set_cons_zero, List.set_cons_succ]
  refine rgs_t (v := ?_) (some 34) 20 (by kernel_rfl) rfl rfl (by assumption) (.inl ⟨by rfl, fun w' hw => ?_⟩) ?_
  rotate_left
  · obtain ⟨q1, q2, q3⟩ := hw; go_simp <;> with_reducible rfl
  try simp only [Act.put, List.setIfInBounds_toArray, List.set_cons_zero, List.set_cons_succ]
  refine rgs_t (v := ?_) (some 2) 21 (by kernel_rfl) rfl rfl (by assumption) (.inl ⟨by rfl, fun w' hw => ?_⟩) ?_
  rotate_left
  · obtain ⟨q1, q2, q3⟩ := hw; go_simp <;> with_reducible rfl
  try simp only [Act.put, List.setIfInBounds_toArray, List.set_cons_zero, List.set_cons_succ]
  refine rgs_d (by kernel_rfl) ?_
  go_wp2
  go_ret
  exact ⟨rfl, ext_trans hbw0 hbc6⟩
end Go.Proofs.Ytjpljjhnjholdaa

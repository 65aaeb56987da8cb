/- The reference's device: a slave without identification. -/
import Derived.Test.YtpbmolijoadonaaSlJ
set_option linter.unusedVariables false
set_option linter.unusedSimpArgs false
namespace Go.Proofs.Ytpbmolijoadonaa
open Go.RowKit

/-- The start of device: the four blocks. -/
theorem dv_start (S : Sl) (ask : Int) (w : World) : DvS w ((((w.alloc (.cells (slCells S) 59)).alloc (.cells #[.int .i64 43, .int .i64 0, .int .i64 0, .int .i64 3, .int .i64 ask] 32)).alloc (.cells #[.int .i64 0, .int .i64 0, .slice none 0 0, .int .i64 0, .int .i64 0, .bool false, .int .i64 0, .slice none 0 0] 42)).alloc (.cells #[.int .i64 43, .int .i64 0, .slice none 0 0, .int .i64 0, .int .i64 0, .bool false, .int .i64 0, .slice none 0 0] 42)) S ask #[.int .i64 43, .int .i64 0, .slice none 0 0, .int .i64 0, .int .i64 0, .bool false, .int .i64 0, .slice none 0 0] := by
  have h1 := Box.alloc_ (w := w) (cs := slCells S) (e := 59)
  have h2 := Box.alloc_ (w := w.alloc (.cells (slCells S) 59)) (cs := #[.int .i64 43, .int .i64 0, .int .i64 0, .int .i64 3, .int .i64 ask]) (e := 32)
  have h3 := Box.alloc_ (w := (w.alloc (.cells (slCells S) 59)).alloc (.cells #[.int .i64 43, .int .i64 0, .int .i64 0, .int .i64 3, .int .i64 ask] 32)) (cs := #[.int .i64 0, .int .i64 0, .slice none 0 0, .int .i64 0, .int .i64 0, .bool false, .int .i64 0, .slice none 0 0]) (e := 42)
  have h4 := Box.alloc_ (w := ((w.alloc (.cells (slCells S) 59)).alloc (.cells #[.int .i64 43, .int .i64 0, .int .i64 0, .int .i64 3, .int .i64 ask] 32)).alloc (.cells #[.int .i64 0, .int .i64 0, .slice none 0 0, .int .i64 0, .int .i64 0, .bool false, .int .i64 0, .slice none 0 0] 42)) (cs := #[.int .i64 43, .int .i64 0, .slice none 0 0, .int .i64 0, .int .i64 0, .bool false, .int .i64 0, .slice none 0 0]) (e := 42)
  simp only [World.size_alloc] at h2 h3 h4
  refine ⟨((h1.alloc' _).alloc' _).alloc' _, (h2.alloc' _).alloc' _, h3.alloc' _, h4, ?_⟩
  exact ((((Below.refl _ _).alloc (Nat.le_refl _) _).alloc (by simp) _).alloc (by simp; omega) _).alloc (by simp; omega) _
set_option maxRecDepth 100000 in
set_option maxHeartbeats 8000000 in
theorem device_none (S : Sl) (ask : Int) (w : World) (h0 : S.lv = 0) :
    Calls Try.prog 34 #[slV S, sqv 43 0 0 3 ask] w fun e w' => e = .returned (.agg #[.int .i64 43, .int .i64 1, .slice none 0 0, .int .i64 0, .int .i64 0, .bool false, .int .i64 0, .slice none 0 0]) ∧ Below w.heap.size w w' := by
  have hst := dv_start S ask w
  obtain ⟨W1, hW1⟩ : ∃ W, ((((w.alloc (.cells (slCells S) 59)).alloc (.cells #[.int .i64 43, .int .i64 0, .int .i64 0, .int .i64 3, .int .i64 ask] 32)).alloc (.cells #[.int .i64 0, .int .i64 0, .slice none 0 0, .int .i64 0, .int .i64 0, .bool false, .int .i64 0, .slice none 0 0] 42)).alloc (.cells #[.int .i64 43, .int .i64 0, .slice none 0 0, .int .i64 0, .int .i64 0, .bool false, .int .i64 0, .slice none 0 0] 42)) = W := ⟨_, rfl⟩
  rw [hW1] at hst
  have HST := Lib.hid hst
  have HW1 := Lib.hid hW1
  have c15 : W1.cell? ⟨w.heap.size, 15, none⟩ = some (.int .i64 0) := by rw [← h0]; exact hst.1.1 15
  have hgl := hst.1.2.2
  clear hst hW1 h0
  go_enter Try.func34, Try.ntmps34
  go_upto_region 2 with fail
  rw [HW1.out]
  have e1 : w.heap.size + 1 + 1 = w.heap.size + 2 := by omega
  have e2 : w.heap.size + 1 + 1 + 1 = w.heap.size + 3 := by omega
  try simp only [e1, e2]
  clear e1 e2
  have HS1 := Lib.hid (HST.out.set (k := 1) (u := .int .i64 1) (rep' := #[.int .i64 43, .int .i64 1, .slice none 0 0, .int .i64 0, .int .i64 0, .bool false, .int .i64 0, .slice none 0 0]) (by simp) rfl)
  have HBZ := Lib.hid (box_put8 HS1.out.2.2.1 (.int .i64 43) (.int .i64 1) (.slice none 0 0) (.int .i64 0) (.int .i64 0) (.bool false) (.int .i64 0) (.slice none 0 0))
  have HWZ := Lib.hid (below_put8 HS1.out.2.2.2.2 (show w.heap.size ≤ w.heap.size + 2 by omega) (.int .i64 43) (.int .i64 1) (.slice none 0 0) (.int .i64 0) (.int .i64 0) (.bool false) (.int .i64 0) (.slice none 0 0))
  obtain ⟨q4, z4, l4⟩ := HST.out.2.2.2.1
  obtain ⟨q3, z3, l3⟩ := HST.out.2.2.1
  have hne : ¬ (w.heap.size + 2 = w.heap.size + 3) := by omega
  go_wp2
  obtain ⟨qz, zz, lz⟩ := HBZ.out
  exact bodyPost_ret (v := .agg #[.int .i64 43, .int .i64 1, .slice none 0 0, .int .i64 0, .int .i64 0, .bool false, .int .i64 0, .slice none 0 0]) (by simp [results, Try.results34, go_sem, qz, zz, lz]) rfl ⟨rfl, HWZ.out⟩
end Go.Proofs.Ytpbmolijoadonaa

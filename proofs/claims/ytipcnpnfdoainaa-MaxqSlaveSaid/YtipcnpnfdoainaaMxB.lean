/- The reference's Answer to a request of a table. Printed by wip/mxb.py -/
import Derived.Test.YtipcnpnfdoainaaMxA
import Derived.Test.YtipcnpnfdoainaaSlG
set_option linter.unusedVariables false
set_option linter.unusedSimpArgs false
namespace Go.Proofs.Ytipcnpnfdoainaa
open Go.RowKit

set_option maxHeartbeats 4000000 in
theorem rqvalidT (t n L : Int) (h1 : 1 ≤ t) (h4 : t ≤ 4) (hL : slimZ t = L) (n1 : 1 ≤ n) (n2 : n ≤ L) (hL2 : L ≤ 2000) (w : World) :
    Calls Try.prog 34 #[.agg #[.int .i64 t, .int .i64 0, .int .i64 n, .int .i64 0, .int .i64 0]] w fun e w' => e = .returned (.bool true) ∧ Below w.heap.size w w' := by
  have HL := Lib.hid (fun W => hL ▸ srlim_any t W)
  have e1 : IntKind.i64.wrap (65536 - n) = 65536 - n := IntWalk.i64_in _ ⟨by omega, by omega⟩
  have e2 : (0 : Int) ≤ 65536 - n := by omega
  have e3 : n ≤ 65536 := by omega
  clear hL
  obtain rfl | rfl | rfl | rfl : t = 1 ∨ t = 2 ∨ t = 3 ∨ t = 4 := by omega
  all_goals
    go_enter Try.func34, Try.ntmps34
    go_wp2
    go_quiet ((go_at_call 22; exact quiet_left (HL.out _)))
    go_wp2
    go_ret
    refine ⟨?_, below_drewN ((Below.refl _ _).alloc (Nat.le_refl _) _) _⟩
    first | rfl | (simp; omega)

set_option maxRecDepth 100000 in
set_option maxHeartbeats 8000000 in
theorem answerT_0 (S : Sl) (value : Int) (q : Nat) (L : Int) (w : World) (hok : S.ok w w.heap.size) (hs1 : ∀ k, k < 4 → (S.tb k).n ≤ 40) (hs2 : S.on_ ≤ 40) (hs3 : S.sn ≤ 80) (hsl : slB S = true) (hL : slimZ 1 = L) (hL2 : L ≤ 2000) (hq1 : 1 ≤ q) (hq2 : (q : Int) ≤ L) (hv1 : 0 ≤ value) (hv2 : value ≤ 65535) :
    Calls Try.prog 21 #[slV S, .agg #[.int .i64 1, .int .i64 0, .int .i64 q, .int .i64 0, .int .i64 0], .int .i64 value] w fun e w' => ∃ E dA dn dc, e = .returned (rpT 1 E dA dn dc) ∧ TabE (S.tb 0).sup (S.tb 0).most q E ∧ Below w.heap.size w w' := by
  have hbS := Box.alloc_ (w := w) (cs := slCells S) (e := 54)
  have hb0 : Below w.heap.size w (((w.alloc (.cells (slCells S) 54)).alloc (.cells #[.int .i64 1, .int .i64 0, .int .i64 q, .int .i64 0, .int .i64 0] 30)).alloc (.cells (rpC 0 0 (.slice none 0 0)) 43)) := (((Below.refl _ w).alloc (Nat.le_refl _) _).alloc (by simp) _).alloc (by simp; omega) _
  have hbS := (hbS.alloc' (.cells #[.int .i64 1, .int .i64 0, .int .i64 q, .int .i64 0, .int .i64 0] 30)).alloc' (.cells (rpC 0 0 (.slice none 0 0)) 43)
  have hbQ := (Box.alloc_ (w := w.alloc (.cells (slCells S) 54)) (cs := #[.int .i64 1, .int .i64 0, .int .i64 q, .int .i64 0, .int .i64 0]) (e := 30)).alloc' (.cells (rpC 0 0 (.slice none 0 0)) 43)
  have hbR := Box.alloc_ (w := (w.alloc (.cells (slCells S) 54)).alloc (.cells #[.int .i64 1, .int .i64 0, .int .i64 q, .int .i64 0, .int .i64 0] 30)) (cs := rpC 0 0 (.slice none 0 0)) (e := 43)
  simp only [World.size_alloc] at hbQ hbR
  obtain ⟨g0, hb⟩ : ∃ b, w.heap.size = b := ⟨_, rfl⟩
  obtain ⟨W1, hW1⟩ : ∃ W, (((w.alloc (.cells (slCells S) 54)).alloc (.cells #[.int .i64 1, .int .i64 0, .int .i64 q, .int .i64 0, .int .i64 0] 30)).alloc (.cells (rpC 0 0 (.slice none 0 0)) 43)) = W := ⟨_, rfl⟩
  rw [hW1] at hb0 hbS hbQ hbR
  rw [hb] at hbS hbQ hbR
  have HS := Lib.hid hbS
  have HQ := Lib.hid hbQ
  have HRP := Lib.hid hbR
  have HB := Lib.hid hb0
  have HW1 := Lib.hid hW1
  have HBB := Lib.hid hb
  have HSV := Lib.hid (fun (W : World) (h : Below w.heap.size w W) => slave_any S W ⟨fun k hk => ((hok.1 k hk).below h (Nat.le_refl _)).more h.size, (hok.2.1.below h (Nat.le_refl _)).more h.size, fun o ho => ⟨((hok.2.2.1 o ho).1.below h (Nat.le_refl _)).more h.size, (hok.2.2.1 o ho).2⟩, (hok.2.2.2.below h (Nat.le_refl _)).more h.size⟩ hs1 hs2 hs3 true hsl)
  obtain ⟨sup, hsup⟩ : ∃ z, (S.tb 0).sup = z := ⟨_, rfl⟩
  obtain ⟨most, hmost⟩ : ∃ z, (S.tb 0).most = z := ⟨_, rfl⟩
  obtain ⟨tA, htA⟩ : ∃ z, (S.tb 0).A = z := ⟨_, rfl⟩
  obtain ⟨tn, htn⟩ : ∃ z, (S.tb 0).n = z := ⟨_, rfl⟩
  obtain ⟨tc, htc⟩ : ∃ z, (S.tb 0).c = z := ⟨_, rfl⟩
  have hrt := hok.1 0 (by decide)
  have hn40 := hs1 0 (by decide)
  rw [htA, htn] at hrt
  rw [htn] at hn40
  rw [hsup, hmost]
  have HTB := Lib.hid (fun (W : World) (h : Below w.heap.size w W) => table_any sup tA tn tc (S.tb 0).rs most 1 value q W ((hrt.below h (Nat.le_refl _)).more h.size) hn40 (by decide) (by decide) hq1 (by omega) hv1 hv2)
  have hC : ∀ W, Box W g0 (slCells S) → W.cell? ⟨g0, 3, none⟩ = some (.bool sup) ∧ W.cell? ⟨g0, 4, none⟩ = some (.slice tA tn tc) ∧ W.cell? ⟨g0, 5, none⟩ = some (.int .i64 most) := fun W h => by
    rw [← hsup, ← hmost, ← htA, ← htn, ← htc]
    exact ⟨h.1 3, h.1 4, h.1 5⟩
  have HC := Lib.hid hC
  have HRQ := Lib.hid (fun (W : World) => rqvalidT 1 q L (by decide) (by decide) hL (by omega) hq2 hL2 W)
  have e0 : IntKind.i64.wrap 0 = 0 := by decide
  have d1 : decide (value < 0) = false := by simp; omega
  have d2 : decide (65535 < value) = false := by simp; omega
  clear hbS hbQ hbR hb0 hok hs1 hs2 hs3 hsl hv1 hv2 hW1 hrt hn40 hsup hmost htA htn htc hC hL hq1 hq2 hb
  go_enter Try.func21, Try.ntmps21
  go_upto_region 1 with fail
  try rw [HW1.out]
  try rw [HBB.out]
  have HLD := Lib.hid (lds_of S g0 W1 HS.out.1)
  obtain ⟨qq, zq, lq⟩ := HQ.out
  go_wp2_with (refine wpList_ldS g0 (slV S) (.tmp 3) HLD.out rfl rfl (by rfl) ?_)
  refine (HSV.out _ HB.out).mono ?_
  rintro e w2 ⟨rfl, hb2⟩
  have HS2 := Lib.hid (HS.out.below hb2)
  have HQ2 := Lib.hid (HQ.out.below hb2)
  have HR2 := Lib.hid (HRP.out.below hb2)
  have HB2 := Lib.hid (ext_trans HB.out hb2)
  clear hb2 qq zq lq
  obtain ⟨qq, zq, lq⟩ := HQ2.out
  go_wp2_with fail
  refine (HRQ.out _).mono ?_
  rintro e w3 ⟨rfl, hb3⟩
  have HS3 := Lib.hid (HS2.out.below hb3).drew
  have HQ3 := Lib.hid (HQ2.out.below hb3)
  have HR3 := Lib.hid (HR2.out.below hb3).drew
  have HB3 := Lib.hid (below_drew (ext_trans HB2.out hb3))
  clear hb3 qq zq lq
  obtain ⟨qq, zq, lq⟩ := HQ3.out
  go_upto_region 4 with fail
  clear qq zq lq
  have HQ4 := Lib.hid HQ3.out.drew
  obtain ⟨y0, hy0⟩ : ∃ y, w3.drew = y := ⟨_, rfl⟩
  rw [hy0] at HS3 HQ4 HR3 HB3
  obtain ⟨k1, k2, k3⟩ := HC.out _ HS3.out
  obtain ⟨qq, zq, lq⟩ := HQ4.out
  have hls := HS3.out.2.2
  have hn1 : ¬ (g0 = g0 + 1 + 1) := by omega
  have hn2 : ¬ (g0 + 1 = g0 + 1 + 1) := by omega
  refine rgx_start_x (X := fun b => b = g0 + 1 + 1) (by kernel_rfl) ?_
  rw [hy0]
  refine rgx_t (v := ?_) (some 27) 0 (by kernel_rfl) rfl rfl (.inl ⟨by rfl, fun w' q => ?_⟩) ?_
  rotate_left
  · go_simp <;> with_reducible rfl
  try simp only [Act.put, List.setIfInBounds_toArray, List.set_cons_zero, List.set_cons_succ]
  refine rgx_t (v := ?_) (some 28) 1 (by kernel_rfl) rfl rfl (.inl ⟨by rfl, fun w' q => ?_⟩) ?_
  rotate_left
  · go_simp <;> with_reducible rfl
  try simp only [Act.put, List.setIfInBounds_toArray, List.set_cons_zero, List.set_cons_succ]
  refine rgx_t (v := ?_) (some 29) 2 (by kernel_rfl) rfl rfl (.inl ⟨by rfl, fun w' q => ?_⟩) ?_
  rotate_left
  · go_simp <;> with_reducible rfl
  try simp only [Act.put, List.setIfInBounds_toArray, List.set_cons_zero, List.set_cons_succ]
  refine rgx_t (v := ?_) (some 30) 3 (by kernel_rfl) rfl rfl (.inl ⟨by rfl, fun w' q => ?_⟩) ?_
  rotate_left
  · go_simp <;> with_reducible rfl
  try simp only [Act.put, List.setIfInBounds_toArray, List.set_cons_zero, List.set_cons_succ]
  refine rgx_t (v := ?_) (some 31) 4 (by kernel_rfl) rfl rfl (.inl ⟨by rfl, fun w' q => ?_⟩) ?_
  rotate_left
  · go_simp <;> with_reducible rfl
  try simp only [Act.put, List.setIfInBounds_toArray, List.set_cons_zero, List.set_cons_succ]
  refine rgx_t (v := ?_) (some 32) 5 (by kernel_rfl) rfl rfl (.inl ⟨by rfl, fun w' q => ?_⟩) ?_
  rotate_left
  · go_simp <;> with_reducible rfl
  try simp only [Act.put, List.setIfInBounds_toArray, List.set_cons_zero, List.set_cons_succ]
  refine rgx_t (v := ?_) (some 33) 6 (by kernel_rfl) rfl rfl (.inl ⟨by rfl, fun w' q => ?_⟩) ?_
  rotate_left
  · go_simp <;> with_reducible rfl
  try simp only [Act.put, List.setIfInBounds_toArray, List.set_cons_zero, List.set_cons_succ]
  refine rgx_t (v := ?_) (some 34) 7 (by kernel_rfl) rfl rfl (.inl ⟨by rfl, fun w' q => ?_⟩) ?_
  rotate_left
  · go_simp <;> with_reducible rfl
  try simp only [Act.put, List.setIfInBounds_toArray, List.set_cons_zero, List.set_cons_succ]
  refine rgx_1 8 (by kernel_rfl) ?_
  refine ⟨_, rfl, by rfl, fun K hK => ?_⟩
  go_simp
  refine (HTB.out _ HB3.out).mono ?_
  rintro e x1 ⟨E, dA, dn, dc, rfl, hE, hbn⟩
  have HE := Lib.hid hE
  have HR4 := Lib.hid (HR3.out.below hbn)
  have HB4 := Lib.hid (ext_trans HB3.out hbn)
  refine hK (fun b => b = g0 + 1 + 1) _ _ (fun b h => .inl h) (Mem.of_below hbn) ?_
  clear hE hbn
  clear hK K
  try simp only [Act.put, List.setIfInBounds_toArray, List.set_cons_zero, List.set_cons_succ]
  refine rgx_1 9 (by kernel_rfl) ?_
  refine ⟨_, rfl, by rfl, fun K hK => ?_⟩
  obtain ⟨q4, z4, l4⟩ := HR4.out
  go_simp
  have hBf := Lib.hid (box_put8 HR4.out (.int .i64 1) (.int .i64 E) (.slice dA dn dc) (.int .i64 0) (.int .i64 0) (.bool false) (.int .i64 0) (.slice none 0 0))
  have hbf := Lib.hid (below_put8 HB4.out (show w.heap.size ≤ g0 + 1 + 1 by have := HBB.out; omega) (.int .i64 1) (.int .i64 E) (.slice dA dn dc) (.int .i64 0) (.int .i64 0) (.bool false) (.int .i64 0) (.slice none 0 0))
  have hm : Mem (fun b => b = g0 + 1 + 1) x1 _ := (((((((((Mem.refl (fun b => b = g0 + 1 + 1) x1).of_set (g := g0 + 1 + 1) (k := 0) (v := .int .i64 1) rfl).of_set (g := g0 + 1 + 1) (k := 1) (v := .int .i64 E) rfl).of_set (g := g0 + 1 + 1) (k := 2) (v := .slice dA dn dc) rfl).of_set (g := g0 + 1 + 1) (k := 3) (v := .int .i64 0) rfl).of_set (g := g0 + 1 + 1) (k := 4) (v := .int .i64 0) rfl).of_set (g := g0 + 1 + 1) (k := 5) (v := .bool false) rfl).of_set (g := g0 + 1 + 1) (k := 6) (v := .int .i64 0) rfl).of_set (g := g0 + 1 + 1) (k := 7) (v := .slice none 0 0) rfl)
  refine hK (fun b => b = g0 + 1 + 1) _ _ (fun b h => .inl h) hm ?_
  clear q4 z4 l4 hm
  clear hK K
  try simp only [Act.put, List.setIfInBounds_toArray, List.set_cons_zero, List.set_cons_succ]
  refine rgx_d (by kernel_rfl) ?_
  go_wp2
  obtain ⟨qf, zf, lf⟩ := hBf.out
  exact bodyPost_ret (v := rpT 1 E dA dn dc) (by simp [results, Try.results21, go_sem, qf, zf, lf]) rfl ⟨E, dA, dn, dc, rfl, HE.out, hbf.out⟩

set_option maxRecDepth 100000 in
set_option maxHeartbeats 8000000 in
theorem answerT_1 (S : Sl) (value : Int) (q : Nat) (L : Int) (w : World) (hok : S.ok w w.heap.size) (hs1 : ∀ k, k < 4 → (S.tb k).n ≤ 40) (hs2 : S.on_ ≤ 40) (hs3 : S.sn ≤ 80) (hsl : slB S = true) (hL : slimZ 2 = L) (hL2 : L ≤ 2000) (hq1 : 1 ≤ q) (hq2 : (q : Int) ≤ L) (hv1 : 0 ≤ value) (hv2 : value ≤ 65535) :
    Calls Try.prog 21 #[slV S, .agg #[.int .i64 2, .int .i64 0, .int .i64 q, .int .i64 0, .int .i64 0], .int .i64 value] w fun e w' => ∃ E dA dn dc, e = .returned (rpT 2 E dA dn dc) ∧ TabE (S.tb 1).sup (S.tb 1).most q E ∧ Below w.heap.size w w' := by
  have hbS := Box.alloc_ (w := w) (cs := slCells S) (e := 54)
  have hb0 : Below w.heap.size w (((w.alloc (.cells (slCells S) 54)).alloc (.cells #[.int .i64 2, .int .i64 0, .int .i64 q, .int .i64 0, .int .i64 0] 30)).alloc (.cells (rpC 0 0 (.slice none 0 0)) 43)) := (((Below.refl _ w).alloc (Nat.le_refl _) _).alloc (by simp) _).alloc (by simp; omega) _
  have hbS := (hbS.alloc' (.cells #[.int .i64 2, .int .i64 0, .int .i64 q, .int .i64 0, .int .i64 0] 30)).alloc' (.cells (rpC 0 0 (.slice none 0 0)) 43)
  have hbQ := (Box.alloc_ (w := w.alloc (.cells (slCells S) 54)) (cs := #[.int .i64 2, .int .i64 0, .int .i64 q, .int .i64 0, .int .i64 0]) (e := 30)).alloc' (.cells (rpC 0 0 (.slice none 0 0)) 43)
  have hbR := Box.alloc_ (w := (w.alloc (.cells (slCells S) 54)).alloc (.cells #[.int .i64 2, .int .i64 0, .int .i64 q, .int .i64 0, .int .i64 0] 30)) (cs := rpC 0 0 (.slice none 0 0)) (e := 43)
  simp only [World.size_alloc] at hbQ hbR
  obtain ⟨g0, hb⟩ : ∃ b, w.heap.size = b := ⟨_, rfl⟩
  obtain ⟨W1, hW1⟩ : ∃ W, (((w.alloc (.cells (slCells S) 54)).alloc (.cells #[.int .i64 2, .int .i64 0, .int .i64 q, .int .i64 0, .int .i64 0] 30)).alloc (.cells (rpC 0 0 (.slice none 0 0)) 43)) = W := ⟨_, rfl⟩
  rw [hW1] at hb0 hbS hbQ hbR
  rw [hb] at hbS hbQ hbR
  have HS := Lib.hid hbS
  have HQ := Lib.hid hbQ
  have HRP := Lib.hid hbR
  have HB := Lib.hid hb0
  have HW1 := Lib.hid hW1
  have HBB := Lib.hid hb
  have HSV := Lib.hid (fun (W : World) (h : Below w.heap.size w W) => slave_any S W ⟨fun k hk => ((hok.1 k hk).below h (Nat.le_refl _)).more h.size, (hok.2.1.below h (Nat.le_refl _)).more h.size, fun o ho => ⟨((hok.2.2.1 o ho).1.below h (Nat.le_refl _)).more h.size, (hok.2.2.1 o ho).2⟩, (hok.2.2.2.below h (Nat.le_refl _)).more h.size⟩ hs1 hs2 hs3 true hsl)
  obtain ⟨sup, hsup⟩ : ∃ z, (S.tb 1).sup = z := ⟨_, rfl⟩
  obtain ⟨most, hmost⟩ : ∃ z, (S.tb 1).most = z := ⟨_, rfl⟩
  obtain ⟨tA, htA⟩ : ∃ z, (S.tb 1).A = z := ⟨_, rfl⟩
  obtain ⟨tn, htn⟩ : ∃ z, (S.tb 1).n = z := ⟨_, rfl⟩
  obtain ⟨tc, htc⟩ : ∃ z, (S.tb 1).c = z := ⟨_, rfl⟩
  have hrt := hok.1 1 (by decide)
  have hn40 := hs1 1 (by decide)
  rw [htA, htn] at hrt
  rw [htn] at hn40
  rw [hsup, hmost]
  have HTB := Lib.hid (fun (W : World) (h : Below w.heap.size w W) => table_any sup tA tn tc (S.tb 1).rs most 2 value q W ((hrt.below h (Nat.le_refl _)).more h.size) hn40 (by decide) (by decide) hq1 (by omega) hv1 hv2)
  have hC : ∀ W, Box W g0 (slCells S) → W.cell? ⟨g0, 6, none⟩ = some (.bool sup) ∧ W.cell? ⟨g0, 7, none⟩ = some (.slice tA tn tc) ∧ W.cell? ⟨g0, 8, none⟩ = some (.int .i64 most) := fun W h => by
    rw [← hsup, ← hmost, ← htA, ← htn, ← htc]
    exact ⟨h.1 6, h.1 7, h.1 8⟩
  have HC := Lib.hid hC
  have HRQ := Lib.hid (fun (W : World) => rqvalidT 2 q L (by decide) (by decide) hL (by omega) hq2 hL2 W)
  have e0 : IntKind.i64.wrap 1 = 1 := by decide
  have d1 : decide (value < 0) = false := by simp; omega
  have d2 : decide (65535 < value) = false := by simp; omega
  clear hbS hbQ hbR hb0 hok hs1 hs2 hs3 hsl hv1 hv2 hW1 hrt hn40 hsup hmost htA htn htc hC hL hq1 hq2 hb
  go_enter Try.func21, Try.ntmps21
  go_upto_region 1 with fail
  try rw [HW1.out]
  try rw [HBB.out]
  have HLD := Lib.hid (lds_of S g0 W1 HS.out.1)
  obtain ⟨qq, zq, lq⟩ := HQ.out
  go_wp2_with (refine wpList_ldS g0 (slV S) (.tmp 3) HLD.out rfl rfl (by rfl) ?_)
  refine (HSV.out _ HB.out).mono ?_
  rintro e w2 ⟨rfl, hb2⟩
  have HS2 := Lib.hid (HS.out.below hb2)
  have HQ2 := Lib.hid (HQ.out.below hb2)
  have HR2 := Lib.hid (HRP.out.below hb2)
  have HB2 := Lib.hid (ext_trans HB.out hb2)
  clear hb2 qq zq lq
  obtain ⟨qq, zq, lq⟩ := HQ2.out
  go_wp2_with fail
  refine (HRQ.out _).mono ?_
  rintro e w3 ⟨rfl, hb3⟩
  have HS3 := Lib.hid (HS2.out.below hb3).drew
  have HQ3 := Lib.hid (HQ2.out.below hb3)
  have HR3 := Lib.hid (HR2.out.below hb3).drew
  have HB3 := Lib.hid (below_drew (ext_trans HB2.out hb3))
  clear hb3 qq zq lq
  obtain ⟨qq, zq, lq⟩ := HQ3.out
  go_upto_region 4 with fail
  clear qq zq lq
  have HQ4 := Lib.hid HQ3.out.drew
  obtain ⟨y0, hy0⟩ : ∃ y, w3.drew = y := ⟨_, rfl⟩
  rw [hy0] at HS3 HQ4 HR3 HB3
  obtain ⟨k1, k2, k3⟩ := HC.out _ HS3.out
  obtain ⟨qq, zq, lq⟩ := HQ4.out
  have hls := HS3.out.2.2
  have hn1 : ¬ (g0 = g0 + 1 + 1) := by omega
  have hn2 : ¬ (g0 + 1 = g0 + 1 + 1) := by omega
  refine rgx_start_x (X := fun b => b = g0 + 1 + 1) (by kernel_rfl) ?_
  rw [hy0]
  refine rgx_t (v := ?_) (some 27) 0 (by kernel_rfl) rfl rfl (.inl ⟨by rfl, fun w' q => ?_⟩) ?_
  rotate_left
  · go_simp <;> with_reducible rfl
  try simp only [Act.put, List.setIfInBounds_toArray, List.set_cons_zero, List.set_cons_succ]
  refine rgx_t (v := ?_) (some 28) 1 (by kernel_rfl) rfl rfl (.inl ⟨by rfl, fun w' q => ?_⟩) ?_
  rotate_left
  · go_simp <;> with_reducible rfl
  try simp only [Act.put, List.setIfInBounds_toArray, List.set_cons_zero, List.set_cons_succ]
  refine rgx_t (v := ?_) (some 29) 2 (by kernel_rfl) rfl rfl (.inl ⟨by rfl, fun w' q => ?_⟩) ?_
  rotate_left
  · go_simp <;> with_reducible rfl
  try simp only [Act.put, List.setIfInBounds_toArray, List.set_cons_zero, List.set_cons_succ]
  refine rgx_t (v := ?_) (some 30) 3 (by kernel_rfl) rfl rfl (.inl ⟨by rfl, fun w' q => ?_⟩) ?_
  rotate_left
  · go_simp <;> with_reducible rfl
  try simp only [Act.put, List.setIfInBounds_toArray, List.set_cons_zero, List.set_cons_succ]
  refine rgx_t (v := ?_) (some 31) 4 (by kernel_rfl) rfl rfl (.inl ⟨by rfl, fun w' q => ?_⟩) ?_
  rotate_left
  · go_simp <;> with_reducible rfl
  try simp only [Act.put, List.setIfInBounds_toArray, List.set_cons_zero, List.set_cons_succ]
  refine rgx_t (v := ?_) (some 32) 5 (by kernel_rfl) rfl rfl (.inl ⟨by rfl, fun w' q => ?_⟩) ?_
  rotate_left
  · go_simp <;> with_reducible rfl
  try simp only [Act.put, List.setIfInBounds_toArray, List.set_cons_zero, List.set_cons_succ]
  refine rgx_t (v := ?_) (some 33) 6 (by kernel_rfl) rfl rfl (.inl ⟨by rfl, fun w' q => ?_⟩) ?_
  rotate_left
  · go_simp <;> with_reducible rfl
  try simp only [Act.put, List.setIfInBounds_toArray, List.set_cons_zero, List.set_cons_succ]
  refine rgx_t (v := ?_) (some 34) 7 (by kernel_rfl) rfl rfl (.inl ⟨by rfl, fun w' q => ?_⟩) ?_
  rotate_left
  · go_simp <;> with_reducible rfl
  try simp only [Act.put, List.setIfInBounds_toArray, List.set_cons_zero, List.set_cons_succ]
  refine rgx_1 8 (by kernel_rfl) ?_
  refine ⟨_, rfl, by rfl, fun K hK => ?_⟩
  go_simp
  refine (HTB.out _ HB3.out).mono ?_
  rintro e x1 ⟨E, dA, dn, dc, rfl, hE, hbn⟩
  have HE := Lib.hid hE
  have HR4 := Lib.hid (HR3.out.below hbn)
  have HB4 := Lib.hid (ext_trans HB3.out hbn)
  refine hK (fun b => b = g0 + 1 + 1) _ _ (fun b h => .inl h) (Mem.of_below hbn) ?_
  clear hE hbn
  clear hK K
  try simp only [Act.put, List.setIfInBounds_toArray, List.set_cons_zero, List.set_cons_succ]
  refine rgx_1 9 (by kernel_rfl) ?_
  refine ⟨_, rfl, by rfl, fun K hK => ?_⟩
  obtain ⟨q4, z4, l4⟩ := HR4.out
  go_simp
  have hBf := Lib.hid (box_put8 HR4.out (.int .i64 2) (.int .i64 E) (.slice dA dn dc) (.int .i64 0) (.int .i64 0) (.bool false) (.int .i64 0) (.slice none 0 0))
  have hbf := Lib.hid (below_put8 HB4.out (show w.heap.size ≤ g0 + 1 + 1 by have := HBB.out; omega) (.int .i64 2) (.int .i64 E) (.slice dA dn dc) (.int .i64 0) (.int .i64 0) (.bool false) (.int .i64 0) (.slice none 0 0))
  have hm : Mem (fun b => b = g0 + 1 + 1) x1 _ := (((((((((Mem.refl (fun b => b = g0 + 1 + 1) x1).of_set (g := g0 + 1 + 1) (k := 0) (v := .int .i64 2) rfl).of_set (g := g0 + 1 + 1) (k := 1) (v := .int .i64 E) rfl).of_set (g := g0 + 1 + 1) (k := 2) (v := .slice dA dn dc) rfl).of_set (g := g0 + 1 + 1) (k := 3) (v := .int .i64 0) rfl).of_set (g := g0 + 1 + 1) (k := 4) (v := .int .i64 0) rfl).of_set (g := g0 + 1 + 1) (k := 5) (v := .bool false) rfl).of_set (g := g0 + 1 + 1) (k := 6) (v := .int .i64 0) rfl).of_set (g := g0 + 1 + 1) (k := 7) (v := .slice none 0 0) rfl)
  refine hK (fun b => b = g0 + 1 + 1) _ _ (fun b h => .inl h) hm ?_
  clear q4 z4 l4 hm
  clear hK K
  try simp only [Act.put, List.setIfInBounds_toArray, List.set_cons_zero, List.set_cons_succ]
  refine rgx_d (by kernel_rfl) ?_
  go_wp2
  obtain ⟨qf, zf, lf⟩ := hBf.out
  exact bodyPost_ret (v := rpT 2 E dA dn dc) (by simp [results, Try.results21, go_sem, qf, zf, lf]) rfl ⟨E, dA, dn, dc, rfl, HE.out, hbf.out⟩

set_option maxRecDepth 100000 in
set_option maxHeartbeats 8000000 in
theorem answerT_2 (S : Sl) (value : Int) (q : Nat) (L : Int) (w : World) (hok : S.ok w w.heap.size) (hs1 : ∀ k, k < 4 → (S.tb k).n ≤ 40) (hs2 : S.on_ ≤ 40) (hs3 : S.sn ≤ 80) (hsl : slB S = true) (hL : slimZ 3 = L) (hL2 : L ≤ 2000) (hq1 : 1 ≤ q) (hq2 : (q : Int) ≤ L) (hv1 : 0 ≤ value) (hv2 : value ≤ 65535) :
    Calls Try.prog 21 #[slV S, .agg #[.int .i64 3, .int .i64 0, .int .i64 q, .int .i64 0, .int .i64 0], .int .i64 value] w fun e w' => ∃ E dA dn dc, e = .returned (rpT 3 E dA dn dc) ∧ TabE (S.tb 2).sup (S.tb 2).most q E ∧ Below w.heap.size w w' := by
  have hbS := Box.alloc_ (w := w) (cs := slCells S) (e := 54)
  have hb0 : Below w.heap.size w (((w.alloc (.cells (slCells S) 54)).alloc (.cells #[.int .i64 3, .int .i64 0, .int .i64 q, .int .i64 0, .int .i64 0] 30)).alloc (.cells (rpC 0 0 (.slice none 0 0)) 43)) := (((Below.refl _ w).alloc (Nat.le_refl _) _).alloc (by simp) _).alloc (by simp; omega) _
  have hbS := (hbS.alloc' (.cells #[.int .i64 3, .int .i64 0, .int .i64 q, .int .i64 0, .int .i64 0] 30)).alloc' (.cells (rpC 0 0 (.slice none 0 0)) 43)
  have hbQ := (Box.alloc_ (w := w.alloc (.cells (slCells S) 54)) (cs := #[.int .i64 3, .int .i64 0, .int .i64 q, .int .i64 0, .int .i64 0]) (e := 30)).alloc' (.cells (rpC 0 0 (.slice none 0 0)) 43)
  have hbR := Box.alloc_ (w := (w.alloc (.cells (slCells S) 54)).alloc (.cells #[.int .i64 3, .int .i64 0, .int .i64 q, .int .i64 0, .int .i64 0] 30)) (cs := rpC 0 0 (.slice none 0 0)) (e := 43)
  simp only [World.size_alloc] at hbQ hbR
  obtain ⟨g0, hb⟩ : ∃ b, w.heap.size = b := ⟨_, rfl⟩
  obtain ⟨W1, hW1⟩ : ∃ W, (((w.alloc (.cells (slCells S) 54)).alloc (.cells #[.int .i64 3, .int .i64 0, .int .i64 q, .int .i64 0, .int .i64 0] 30)).alloc (.cells (rpC 0 0 (.slice none 0 0)) 43)) = W := ⟨_, rfl⟩
  rw [hW1] at hb0 hbS hbQ hbR
  rw [hb] at hbS hbQ hbR
  have HS := Lib.hid hbS
  have HQ := Lib.hid hbQ
  have HRP := Lib.hid hbR
  have HB := Lib.hid hb0
  have HW1 := Lib.hid hW1
  have HBB := Lib.hid hb
  have HSV := Lib.hid (fun (W : World) (h : Below w.heap.size w W) => slave_any S W ⟨fun k hk => ((hok.1 k hk).below h (Nat.le_refl _)).more h.size, (hok.2.1.below h (Nat.le_refl _)).more h.size, fun o ho => ⟨((hok.2.2.1 o ho).1.below h (Nat.le_refl _)).more h.size, (hok.2.2.1 o ho).2⟩, (hok.2.2.2.below h (Nat.le_refl _)).more h.size⟩ hs1 hs2 hs3 true hsl)
  obtain ⟨sup, hsup⟩ : ∃ z, (S.tb 2).sup = z := ⟨_, rfl⟩
  obtain ⟨most, hmost⟩ : ∃ z, (S.tb 2).most = z := ⟨_, rfl⟩
  obtain ⟨tA, htA⟩ : ∃ z, (S.tb 2).A = z := ⟨_, rfl⟩
  obtain ⟨tn, htn⟩ : ∃ z, (S.tb 2).n = z := ⟨_, rfl⟩
  obtain ⟨tc, htc⟩ : ∃ z, (S.tb 2).c = z := ⟨_, rfl⟩
  have hrt := hok.1 2 (by decide)
  have hn40 := hs1 2 (by decide)
  rw [htA, htn] at hrt
  rw [htn] at hn40
  rw [hsup, hmost]
  have HTB := Lib.hid (fun (W : World) (h : Below w.heap.size w W) => table_any sup tA tn tc (S.tb 2).rs most 3 value q W ((hrt.below h (Nat.le_refl _)).more h.size) hn40 (by decide) (by decide) hq1 (by omega) hv1 hv2)
  have hC : ∀ W, Box W g0 (slCells S) → W.cell? ⟨g0, 9, none⟩ = some (.bool sup) ∧ W.cell? ⟨g0, 10, none⟩ = some (.slice tA tn tc) ∧ W.cell? ⟨g0, 11, none⟩ = some (.int .i64 most) := fun W h => by
    rw [← hsup, ← hmost, ← htA, ← htn, ← htc]
    exact ⟨h.1 9, h.1 10, h.1 11⟩
  have HC := Lib.hid hC
  have HRQ := Lib.hid (fun (W : World) => rqvalidT 3 q L (by decide) (by decide) hL (by omega) hq2 hL2 W)
  have e0 : IntKind.i64.wrap 2 = 2 := by decide
  have d1 : decide (value < 0) = false := by simp; omega
  have d2 : decide (65535 < value) = false := by simp; omega
  clear hbS hbQ hbR hb0 hok hs1 hs2 hs3 hsl hv1 hv2 hW1 hrt hn40 hsup hmost htA htn htc hC hL hq1 hq2 hb
  go_enter Try.func21, Try.ntmps21
  go_upto_region 1 with fail
  try rw [HW1.out]
  try rw [HBB.out]
  have HLD := Lib.hid (lds_of S g0 W1 HS.out.1)
  obtain ⟨qq, zq, lq⟩ := HQ.out
  go_wp2_with (refine wpList_ldS g0 (slV S) (.tmp 3) HLD.out rfl rfl (by rfl) ?_)
  refine (HSV.out _ HB.out).mono ?_
  rintro e w2 ⟨rfl, hb2⟩
  have HS2 := Lib.hid (HS.out.below hb2)
  have HQ2 := Lib.hid (HQ.out.below hb2)
  have HR2 := Lib.hid (HRP.out.below hb2)
  have HB2 := Lib.hid (ext_trans HB.out hb2)
  clear hb2 qq zq lq
  obtain ⟨qq, zq, lq⟩ := HQ2.out
  go_wp2_with fail
  refine (HRQ.out _).mono ?_
  rintro e w3 ⟨rfl, hb3⟩
  have HS3 := Lib.hid (HS2.out.below hb3).drew
  have HQ3 := Lib.hid (HQ2.out.below hb3)
  have HR3 := Lib.hid (HR2.out.below hb3).drew
  have HB3 := Lib.hid (below_drew (ext_trans HB2.out hb3))
  clear hb3 qq zq lq
  obtain ⟨qq, zq, lq⟩ := HQ3.out
  go_upto_region 4 with fail
  clear qq zq lq
  have HQ4 := Lib.hid HQ3.out.drew
  obtain ⟨y0, hy0⟩ : ∃ y, w3.drew = y := ⟨_, rfl⟩
  rw [hy0] at HS3 HQ4 HR3 HB3
  obtain ⟨k1, k2, k3⟩ := HC.out _ HS3.out
  obtain ⟨qq, zq, lq⟩ := HQ4.out
  have hls := HS3.out.2.2
  have hn1 : ¬ (g0 = g0 + 1 + 1) := by omega
  have hn2 : ¬ (g0 + 1 = g0 + 1 + 1) := by omega
  refine rgx_start_x (X := fun b => b = g0 + 1 + 1) (by kernel_rfl) ?_
  rw [hy0]
  refine rgx_t (v := ?_) (some 27) 0 (by kernel_rfl) rfl rfl (.inl ⟨by rfl, fun w' q => ?_⟩) ?_
  rotate_left
  · go_simp <;> with_reducible rfl
  try simp only [Act.put, List.setIfInBounds_toArray, List.set_cons_zero, List.set_cons_succ]
  refine rgx_t (v := ?_) (some 28) 1 (by kernel_rfl) rfl rfl (.inl ⟨by rfl, fun w' q => ?_⟩) ?_
  rotate_left
  · go_simp <;> with_reducible rfl
  try simp only [Act.put, List.setIfInBounds_toArray, List.set_cons_zero, List.set_cons_succ]
  refine rgx_t (v := ?_) (some 29) 2 (by kernel_rfl) rfl rfl (.inl ⟨by rfl, fun w' q => ?_⟩) ?_
  rotate_left
  · go_simp <;> with_reducible rfl
  try simp only [Act.put, List.setIfInBounds_toArray, List.set_cons_zero, List.set_cons_succ]
  refine rgx_t (v := ?_) (some 30) 3 (by kernel_rfl) rfl rfl (.inl ⟨by rfl, fun w' q => ?_⟩) ?_
  rotate_left
  · go_simp <;> with_reducible rfl
  try simp only [Act.put, List.setIfInBounds_toArray, List.set_cons_zero, List.set_cons_succ]
  refine rgx_t (v := ?_) (some 31) 4 (by kernel_rfl) rfl rfl (.inl ⟨by rfl, fun w' q => ?_⟩) ?_
  rotate_left
  · go_simp <;> with_reducible rfl
  try simp only [Act.put, List.setIfInBounds_toArray, List.set_cons_zero, List.set_cons_succ]
  refine rgx_t (v := ?_) (some 32) 5 (by kernel_rfl) rfl rfl (.inl ⟨by rfl, fun w' q => ?_⟩) ?_
  rotate_left
  · go_simp <;> with_reducible rfl
  try simp only [Act.put, List.setIfInBounds_toArray, List.set_cons_zero, List.set_cons_succ]
  refine rgx_t (v := ?_) (some 33) 6 (by kernel_rfl) rfl rfl (.inl ⟨by rfl, fun w' q => ?_⟩) ?_
  rotate_left
  · go_simp <;> with_reducible rfl
  try simp only [Act.put, List.setIfInBounds_toArray, List.set_cons_zero, List.set_cons_succ]
  refine rgx_t (v := ?_) (some 34) 7 (by kernel_rfl) rfl rfl (.inl ⟨by rfl, fun w' q => ?_⟩) ?_
  rotate_left
  · go_simp <;> with_reducible rfl
  try simp only [Act.put, List.setIfInBounds_toArray, List.set_cons_zero, List.set_cons_succ]
  refine rgx_1 8 (by kernel_rfl) ?_
  refine ⟨_, rfl, by rfl, fun K hK => ?_⟩
  go_simp
  refine (HTB.out _ HB3.out).mono ?_
  rintro e x1 ⟨E, dA, dn, dc, rfl, hE, hbn⟩
  have HE := Lib.hid hE
  have HR4 := Lib.hid (HR3.out.below hbn)
  have HB4 := Lib.hid (ext_trans HB3.out hbn)
  refine hK (fun b => b = g0 + 1 + 1) _ _ (fun b h => .inl h) (Mem.of_below hbn) ?_
  clear hE hbn
  clear hK K
  try simp only [Act.put, List.setIfInBounds_toArray, List.set_cons_zero, List.set_cons_succ]
  refine rgx_1 9 (by kernel_rfl) ?_
  refine ⟨_, rfl, by rfl, fun K hK => ?_⟩
  obtain ⟨q4, z4, l4⟩ := HR4.out
  go_simp
  have hBf := Lib.hid (box_put8 HR4.out (.int .i64 3) (.int .i64 E) (.slice dA dn dc) (.int .i64 0) (.int .i64 0) (.bool false) (.int .i64 0) (.slice none 0 0))
  have hbf := Lib.hid (below_put8 HB4.out (show w.heap.size ≤ g0 + 1 + 1 by have := HBB.out; omega) (.int .i64 3) (.int .i64 E) (.slice dA dn dc) (.int .i64 0) (.int .i64 0) (.bool false) (.int .i64 0) (.slice none 0 0))
  have hm : Mem (fun b => b = g0 + 1 + 1) x1 _ := (((((((((Mem.refl (fun b => b = g0 + 1 + 1) x1).of_set (g := g0 + 1 + 1) (k := 0) (v := .int .i64 3) rfl).of_set (g := g0 + 1 + 1) (k := 1) (v := .int .i64 E) rfl).of_set (g := g0 + 1 + 1) (k := 2) (v := .slice dA dn dc) rfl).of_set (g := g0 + 1 + 1) (k := 3) (v := .int .i64 0) rfl).of_set (g := g0 + 1 + 1) (k := 4) (v := .int .i64 0) rfl).of_set (g := g0 + 1 + 1) (k := 5) (v := .bool false) rfl).of_set (g := g0 + 1 + 1) (k := 6) (v := .int .i64 0) rfl).of_set (g := g0 + 1 + 1) (k := 7) (v := .slice none 0 0) rfl)
  refine hK (fun b => b = g0 + 1 + 1) _ _ (fun b h => .inl h) hm ?_
  clear q4 z4 l4 hm
  clear hK K
  try simp only [Act.put, List.setIfInBounds_toArray, List.set_cons_zero, List.set_cons_succ]
  refine rgx_d (by kernel_rfl) ?_
  go_wp2
  obtain ⟨qf, zf, lf⟩ := hBf.out
  exact bodyPost_ret (v := rpT 3 E dA dn dc) (by simp [results, Try.results21, go_sem, qf, zf, lf]) rfl ⟨E, dA, dn, dc, rfl, HE.out, hbf.out⟩

set_option maxRecDepth 100000 in
set_option maxHeartbeats 8000000 in
theorem answerT_3 (S : Sl) (value : Int) (q : Nat) (L : Int) (w : World) (hok : S.ok w w.heap.size) (hs1 : ∀ k, k < 4 → (S.tb k).n ≤ 40) (hs2 : S.on_ ≤ 40) (hs3 : S.sn ≤ 80) (hsl : slB S = true) (hL : slimZ 4 = L) (hL2 : L ≤ 2000) (hq1 : 1 ≤ q) (hq2 : (q : Int) ≤ L) (hv1 : 0 ≤ value) (hv2 : value ≤ 65535) :
    Calls Try.prog 21 #[slV S, .agg #[.int .i64 4, .int .i64 0, .int .i64 q, .int .i64 0, .int .i64 0], .int .i64 value] w fun e w' => ∃ E dA dn dc, e = .returned (rpT 4 E dA dn dc) ∧ TabE (S.tb 3).sup (S.tb 3).most q E ∧ Below w.heap.size w w' := by
  have hbS := Box.alloc_ (w := w) (cs := slCells S) (e := 54)
  have hb0 : Below w.heap.size w (((w.alloc (.cells (slCells S) 54)).alloc (.cells #[.int .i64 4, .int .i64 0, .int .i64 q, .int .i64 0, .int .i64 0] 30)).alloc (.cells (rpC 0 0 (.slice none 0 0)) 43)) := (((Below.refl _ w).alloc (Nat.le_refl _) _).alloc (by simp) _).alloc (by simp; omega) _
  have hbS := (hbS.alloc' (.cells #[.int .i64 4, .int .i64 0, .int .i64 q, .int .i64 0, .int .i64 0] 30)).alloc' (.cells (rpC 0 0 (.slice none 0 0)) 43)
  have hbQ := (Box.alloc_ (w := w.alloc (.cells (slCells S) 54)) (cs := #[.int .i64 4, .int .i64 0, .int .i64 q, .int .i64 0, .int .i64 0]) (e := 30)).alloc' (.cells (rpC 0 0 (.slice none 0 0)) 43)
  have hbR := Box.alloc_ (w := (w.alloc (.cells (slCells S) 54)).alloc (.cells #[.int .i64 4, .int .i64 0, .int .i64 q, .int .i64 0, .int .i64 0] 30)) (cs := rpC 0 0 (.slice none 0 0)) (e := 43)
  simp only [World.size_alloc] at hbQ hbR
  obtain ⟨g0, hb⟩ : ∃ b, w.heap.size = b := ⟨_, rfl⟩
  obtain ⟨W1, hW1⟩ : ∃ W, (((w.alloc (.cells (slCells S) 54)).alloc (.cells #[.int .i64 4, .int .i64 0, .int .i64 q, .int .i64 0, .int .i64 0] 30)).alloc (.cells (rpC 0 0 (.slice none 0 0)) 43)) = W := ⟨_, rfl⟩
  rw [hW1] at hb0 hbS hbQ hbR
  rw [hb] at hbS hbQ hbR
  have HS := Lib.hid hbS
  have HQ := Lib.hid hbQ
  have HRP := Lib.hid hbR
  have HB := Lib.hid hb0
  have HW1 := Lib.hid hW1
  have HBB := Lib.hid hb
  have HSV := Lib.hid (fun (W : World) (h : Below w.heap.size w W) => slave_any S W ⟨fun k hk => ((hok.1 k hk).below h (Nat.le_refl _)).more h.size, (hok.2.1.below h (Nat.le_refl _)).more h.size, fun o ho => ⟨((hok.2.2.1 o ho).1.below h (Nat.le_refl _)).more h.size, (hok.2.2.1 o ho).2⟩, (hok.2.2.2.below h (Nat.le_refl _)).more h.size⟩ hs1 hs2 hs3 true hsl)
  obtain ⟨sup, hsup⟩ : ∃ z, (S.tb 3).sup = z := ⟨_, rfl⟩
  obtain ⟨most, hmost⟩ : ∃ z, (S.tb 3).most = z := ⟨_, rfl⟩
  obtain ⟨tA, htA⟩ : ∃ z, (S.tb 3).A = z := ⟨_, rfl⟩
  obtain ⟨tn, htn⟩ : ∃ z, (S.tb 3).n = z := ⟨_, rfl⟩
  obtain ⟨tc, htc⟩ : ∃ z, (S.tb 3).c = z := ⟨_, rfl⟩
  have hrt := hok.1 3 (by decide)
  have hn40 := hs1 3 (by decide)
  rw [htA, htn] at hrt
  rw [htn] at hn40
  rw [hsup, hmost]
  have HTB := Lib.hid (fun (W : World) (h : Below w.heap.size w W) => table_any sup tA tn tc (S.tb 3).rs most 4 value q W ((hrt.below h (Nat.le_refl _)).more h.size) hn40 (by decide) (by decide) hq1 (by omega) hv1 hv2)
  have hC : ∀ W, Box W g0 (slCells S) → W.cell? ⟨g0, 12, none⟩ = some (.bool sup) ∧ W.cell? ⟨g0, 13, none⟩ = some (.slice tA tn tc) ∧ W.cell? ⟨g0, 14, none⟩ = some (.int .i64 most) := fun W h => by
    rw [← hsup, ← hmost, ← htA, ← htn, ← htc]
    exact ⟨h.1 12, h.1 13, h.1 14⟩
  have HC := Lib.hid hC
  have HRQ := Lib.hid (fun (W : World) => rqvalidT 4 q L (by decide) (by decide) hL (by omega) hq2 hL2 W)
  have e0 : IntKind.i64.wrap 3 = 3 := by decide
  have d1 : decide (value < 0) = false := by simp; omega
  have d2 : decide (65535 < value) = false := by simp; omega
  clear hbS hbQ hbR hb0 hok hs1 hs2 hs3 hsl hv1 hv2 hW1 hrt hn40 hsup hmost htA htn htc hC hL hq1 hq2 hb
  go_enter Try.func21, Try.ntmps21
  go_upto_region 1 with fail
  try rw [HW1.out]
  try rw [HBB.out]
  have HLD := Lib.hid (lds_of S g0 W1 HS.out.1)
  obtain ⟨qq, zq, lq⟩ := HQ.out
  go_wp2_with (refine wpList_ldS g0 (slV S) (.tmp 3) HLD.out rfl rfl (by rfl) ?_)
  refine (HSV.out _ HB.out).mono ?_
  rintro e w2 ⟨rfl, hb2⟩
  have HS2 := Lib.hid (HS.out.below hb2)
  have HQ2 := Lib.hid (HQ.out.below hb2)
  have HR2 := Lib.hid (HRP.out.below hb2)
  have HB2 := Lib.hid (ext_trans HB.out hb2)
  clear hb2 qq zq lq
  obtain ⟨qq, zq, lq⟩ := HQ2.out
  go_wp2_with fail
  refine (HRQ.out _).mono ?_
  rintro e w3 ⟨rfl, hb3⟩
  have HS3 := Lib.hid (HS2.out.below hb3).drew
  have HQ3 := Lib.hid (HQ2.out.below hb3)
  have HR3 := Lib.hid (HR2.out.below hb3).drew
  have HB3 := Lib.hid (below_drew (ext_trans HB2.out hb3))
  clear hb3 qq zq lq
  obtain ⟨qq, zq, lq⟩ := HQ3.out
  go_upto_region 4 with fail
  clear qq zq lq
  have HQ4 := Lib.hid HQ3.out.drew
  obtain ⟨y0, hy0⟩ : ∃ y, w3.drew = y := ⟨_, rfl⟩
  rw [hy0] at HS3 HQ4 HR3 HB3
  obtain ⟨k1, k2, k3⟩ := HC.out _ HS3.out
  obtain ⟨qq, zq, lq⟩ := HQ4.out
  have hls := HS3.out.2.2
  have hn1 : ¬ (g0 = g0 + 1 + 1) := by omega
  have hn2 : ¬ (g0 + 1 = g0 + 1 + 1) := by omega
  refine rgx_start_x (X := fun b => b = g0 + 1 + 1) (by kernel_rfl) ?_
  rw [hy0]
  refine rgx_t (v := ?_) (some 27) 0 (by kernel_rfl) rfl rfl (.inl ⟨by rfl, fun w' q => ?_⟩) ?_
  rotate_left
  · go_simp <;> with_reducible rfl
  try simp only [Act.put, List.setIfInBounds_toArray, List.set_cons_zero, List.set_cons_succ]
  refine rgx_t (v := ?_) (some 28) 1 (by kernel_rfl) rfl rfl (.inl ⟨by rfl, fun w' q => ?_⟩) ?_
  rotate_left
  · go_simp <;> with_reducible rfl
  try simp only [Act.put, List.setIfInBounds_toArray, List.set_cons_zero, List.set_cons_succ]
  refine rgx_t (v := ?_) (some 29) 2 (by kernel_rfl) rfl rfl (.inl ⟨by rfl, fun w' q => ?_⟩) ?_
  rotate_left
  · go_simp <;> with_reducible rfl
  try simp only [Act.put, List.setIfInBounds_toArray, List.set_cons_zero, List.set_cons_succ]
  refine rgx_t (v := ?_) (some 30) 3 (by kernel_rfl) rfl rfl (.inl ⟨by rfl, fun w' q => ?_⟩) ?_
  rotate_left
  · go_simp <;> with_reducible rfl
  try simp only [Act.put, List.setIfInBounds_toArray, List.set_cons_zero, List.set_cons_succ]
  refine rgx_t (v := ?_) (some 31) 4 (by kernel_rfl) rfl rfl (.inl ⟨by rfl, fun w' q => ?_⟩) ?_
  rotate_left
  · go_simp <;> with_reducible rfl
  try simp only [Act.put, List.setIfInBounds_toArray, List.set_cons_zero, List.set_cons_succ]
  refine rgx_t (v := ?_) (some 32) 5 (by kernel_rfl) rfl rfl (.inl ⟨by rfl, fun w' q => ?_⟩) ?_
  rotate_left
  · go_simp <;> with_reducible rfl
  try simp only [Act.put, List.setIfInBounds_toArray, List.set_cons_zero, List.set_cons_succ]
  refine rgx_t (v := ?_) (some 33) 6 (by kernel_rfl) rfl rfl (.inl ⟨by rfl, fun w' q => ?_⟩) ?_
  rotate_left
  · go_simp <;> with_reducible rfl
  try simp only [Act.put, List.setIfInBounds_toArray, List.set_cons_zero, List.set_cons_succ]
  refine rgx_t (v := ?_) (some 34) 7 (by kernel_rfl) rfl rfl (.inl ⟨by rfl, fun w' q => ?_⟩) ?_
  rotate_left
  · go_simp <;> with_reducible rfl
  try simp only [Act.put, List.setIfInBounds_toArray, List.set_cons_zero, List.set_cons_succ]
  refine rgx_1 8 (by kernel_rfl) ?_
  refine ⟨_, rfl, by rfl, fun K hK => ?_⟩
  go_simp
  refine (HTB.out _ HB3.out).mono ?_
  rintro e x1 ⟨E, dA, dn, dc, rfl, hE, hbn⟩
  have HE := Lib.hid hE
  have HR4 := Lib.hid (HR3.out.below hbn)
  have HB4 := Lib.hid (ext_trans HB3.out hbn)
  refine hK (fun b => b = g0 + 1 + 1) _ _ (fun b h => .inl h) (Mem.of_below hbn) ?_
  clear hE hbn
  clear hK K
  try simp only [Act.put, List.setIfInBounds_toArray, List.set_cons_zero, List.set_cons_succ]
  refine rgx_1 9 (by kernel_rfl) ?_
  refine ⟨_, rfl, by rfl, fun K hK => ?_⟩
  obtain ⟨q4, z4, l4⟩ := HR4.out
  go_simp
  have hBf := Lib.hid (box_put8 HR4.out (.int .i64 4) (.int .i64 E) (.slice dA dn dc) (.int .i64 0) (.int .i64 0) (.bool false) (.int .i64 0) (.slice none 0 0))
  have hbf := Lib.hid (below_put8 HB4.out (show w.heap.size ≤ g0 + 1 + 1 by have := HBB.out; omega) (.int .i64 4) (.int .i64 E) (.slice dA dn dc) (.int .i64 0) (.int .i64 0) (.bool false) (.int .i64 0) (.slice none 0 0))
  have hm : Mem (fun b => b = g0 + 1 + 1) x1 _ := (((((((((Mem.refl (fun b => b = g0 + 1 + 1) x1).of_set (g := g0 + 1 + 1) (k := 0) (v := .int .i64 4) rfl).of_set (g := g0 + 1 + 1) (k := 1) (v := .int .i64 E) rfl).of_set (g := g0 + 1 + 1) (k := 2) (v := .slice dA dn dc) rfl).of_set (g := g0 + 1 + 1) (k := 3) (v := .int .i64 0) rfl).of_set (g := g0 + 1 + 1) (k := 4) (v := .int .i64 0) rfl).of_set (g := g0 + 1 + 1) (k := 5) (v := .bool false) rfl).of_set (g := g0 + 1 + 1) (k := 6) (v := .int .i64 0) rfl).of_set (g := g0 + 1 + 1) (k := 7) (v := .slice none 0 0) rfl)
  refine hK (fun b => b = g0 + 1 + 1) _ _ (fun b h => .inl h) hm ?_
  clear q4 z4 l4 hm
  clear hK K
  try simp only [Act.put, List.setIfInBounds_toArray, List.set_cons_zero, List.set_cons_succ]
  refine rgx_d (by kernel_rfl) ?_
  go_wp2
  obtain ⟨qf, zf, lf⟩ := hBf.out
  exact bodyPost_ret (v := rpT 4 E dA dn dc) (by simp [results, Try.results21, go_sem, qf, zf, lf]) rfl ⟨E, dA, dn, dc, rfl, HE.out, hbf.out⟩

theorem answerT (S : Sl) (t value : Int) (k q : Nat) (L : Int) (w : World) (hok : S.ok w w.heap.size) (hs1 : ∀ k, k < 4 → (S.tb k).n ≤ 40) (hs2 : S.on_ ≤ 40) (hs3 : S.sn ≤ 80) (hsl : slB S = true) (ht : t = (k : Int) + 1) (hk : k < 4) (hL : slimZ t = L) (hL2 : L ≤ 2000) (hq1 : 1 ≤ q) (hq2 : (q : Int) ≤ L) (hv1 : 0 ≤ value) (hv2 : value ≤ 65535) :
    Calls Try.prog 21 #[slV S, .agg #[.int .i64 t, .int .i64 0, .int .i64 q, .int .i64 0, .int .i64 0], .int .i64 value] w fun e w' => ∃ E dA dn dc, e = .returned (rpT t E dA dn dc) ∧ TabE (S.tb k).sup (S.tb k).most q E ∧ Below w.heap.size w w' := by
  subst ht
  match k, hk with
  | 0, _ => exact answerT_0 S value q L w hok hs1 hs2 hs3 hsl hL hL2 hq1 hq2 hv1 hv2
  | 1, _ => exact answerT_1 S value q L w hok hs1 hs2 hs3 hsl hL hL2 hq1 hq2 hv1 hv2
  | 2, _ => exact answerT_2 S value q L w hok hs1 hs2 hs3 hsl hL hL2 hq1 hq2 hv1 hv2
  | 3, _ => exact answerT_3 S value q L w hok hs1 hs2 hs3 hsl hL hL2 hq1 hq2 hv1 hv2
end Go.Proofs.Ytipcnpnfdoainaa

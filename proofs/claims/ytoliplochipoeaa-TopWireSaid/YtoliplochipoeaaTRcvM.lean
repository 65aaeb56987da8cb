/- The receiver: New. -/
import Derived.Test.YtoliplochipoeaaTRcvI
set_option linter.unusedVariables false
set_option linter.unusedSimpArgs false
namespace Go.Proofs.Ytoliplochipoeaa
open Go.RowKit

theorem new_bad (b p : Int) (hv : validB b p = false) (w : World) :
    Calls Try.prog 31 #[.agg #[.int .i64 b, .int .i64 p]] w fun e w' => e = .returned (.tuple #[.pointer none, .int .i64 5]) ∧ Below w.heap.size w w' := by
  have HV := Lib.hid (fun W => valid_any b p false hv W)
  have hb0 : Below w.heap.size w (w.alloc (.cells #[.int .i64 b, .int .i64 p] 24)) := (Below.refl _ _).alloc (Nat.le_refl _) _
  clear hv
  go_enter Try.func31, Try.ntmps31
  go_wp2_with fail
  refine (HV.out _).mono ?_
  rintro e w1 ⟨rfl, hb1⟩
  go_wp2
  exact bodyPost_ret (v := .tuple #[.pointer none, .int .i64 5]) (by simp [results, Try.results31, go_sem]) rfl ⟨rfl, ext_trans hb0 hb1⟩
set_option maxRecDepth 100000 in
set_option maxHeartbeats 4000000 in
theorem new_ok (b p ch t15 t35 : Int) (hv : validB b p = true) (h1 : charZ b p = ch) (h2 : t15Z b p = t15) (h3 : t35Z b p = t35) (w : World) :
    Calls Try.prog 31 #[.agg #[.int .i64 b, .int .i64 p]] w fun e w' => ∃ g, e = .returned (.tuple #[iptr g, .int .i64 0]) ∧ Box w' g (rcvCells ch t15 t35 (.slice none 0 0) 0 0 0 false 0 0) ∧ w.heap.size ≤ g ∧ Below w.heap.size w w' := by
  have HV := Lib.hid (fun W => valid_any b p true hv W)
  have HC := Lib.hid (fun W => char_any b p W)
  have H15 := Lib.hid (fun W => t15_any b p W)
  have H35 := Lib.hid (fun W => t35_any b p W)
  rw [h1] at HC
  rw [h2] at H15
  rw [h3] at H35
  have hb0 : Below w.heap.size w (w.alloc (.cells #[.int .i64 b, .int .i64 p] 24)) := (Below.refl _ _).alloc (Nat.le_refl _) _
  have HBs := Lib.hid (Box.alloc_ (w := w) (cs := #[.int .i64 b, .int .i64 p]) (e := 24))
  clear hv h1 h2 h3
  go_enter Try.func31, Try.ntmps31
  go_wp2_with fail
  refine (HV.out _).mono ?_
  rintro e w1 ⟨rfl, hb1⟩
  have hbw := ext_trans hb0 hb1
  have HBs := Lib.hid (HBs.out.below hb1)
  clear hb0 hb1
  go_upto_region 3 with fail
  have hbw2 := below_drew hbw
  obtain ⟨qs, zs, ls⟩ := HBs.out.drew
  obtain ⟨x0, hx0⟩ : ∃ x, w1.drew = x := ⟨_, rfl⟩
  rw [hx0] at qs zs ls hbw2
  have y0 : x0.cell? ⟨w.heap.size, 0, none⟩ = some (.int .i64 b) := qs 0
  have y1 : x0.cell? ⟨w.heap.size, 1, none⟩ = some (.int .i64 p) := qs 1
  have HBW := Lib.hid hbw2
  obtain ⟨bs, hbs⟩ : ∃ b, w.heap.size = b := ⟨_, rfl⟩
  rw [hbs] at y0 y1 ls
  rw [hbs]
  have HBS := Lib.hid hbs
  clear qs zs hbw hbw2 HBs hbs
  refine rgx_start (by kernel_rfl) ?_
  rw [hx0]
  refine rgx_t (v := ?_) (some 7) 0 (by kernel_rfl) rfl rfl (.inl ⟨by rfl, fun w' q => ?_⟩) ?_
  rotate_left
  · go_simp <;> with_reducible rfl
  try simp only [Act.put, List.setIfInBounds_toArray, List.set_cons_zero, List.set_cons_succ]
  refine rgx_t (v := ?_) (some 9) 2 (by kernel_rfl) rfl rfl (.inl ⟨by rfl, fun w' q => ?_⟩) ?_
  rotate_left
  · go_simp <;> with_reducible rfl
  try simp only [Act.put, List.setIfInBounds_toArray, List.set_cons_zero, List.set_cons_succ]
  refine rgx_t (v := ?_) (some 11) 4 (by kernel_rfl) rfl rfl (.inl ⟨by rfl, fun w' q => ?_⟩) ?_
  rotate_left
  · go_simp <;> with_reducible rfl
  try simp only [Act.put, List.setIfInBounds_toArray, List.set_cons_zero, List.set_cons_succ]
  refine rgx_1 1 (by kernel_rfl) ?_
  refine ⟨_, rfl, by rfl, fun K hK => ?_⟩
  go_simp
  refine (HC.out _).mono ?_
  rintro e x1 ⟨rfl, hb⟩
  have HBW := Lib.hid (ext_trans HBW.out hb)
  refine hK (fun b => False) _ _ (fun b h => .inl h) (Mem.of_below hb) ?_
  clear hb
  clear hK K
  try simp only [Act.put, List.setIfInBounds_toArray, List.set_cons_zero, List.set_cons_succ]
  refine rgx_1 3 (by kernel_rfl) ?_
  refine ⟨_, rfl, by rfl, fun K hK => ?_⟩
  go_simp
  refine (H15.out _).mono ?_
  rintro e x2 ⟨rfl, hb⟩
  have HBW := Lib.hid (ext_trans HBW.out hb)
  refine hK (fun b => False) _ _ (fun b h => .inl h) (Mem.of_below hb) ?_
  clear hb
  clear hK K
  try simp only [Act.put, List.setIfInBounds_toArray, List.set_cons_zero, List.set_cons_succ]
  refine rgx_1 5 (by kernel_rfl) ?_
  refine ⟨_, rfl, by rfl, fun K hK => ?_⟩
  go_simp
  refine (H35.out _).mono ?_
  rintro e x3 ⟨rfl, hb⟩
  have HBW := Lib.hid (ext_trans HBW.out hb)
  refine hK (fun b => False) _ _ (fun b h => .inl h) (Mem.of_below hb) ?_
  clear hb
  clear hK K
  try simp only [Act.put, List.setIfInBounds_toArray, List.set_cons_zero, List.set_cons_succ]
  refine rgx_t (v := ?_) (some 13) 6 (by kernel_rfl) rfl rfl (.inl ⟨by rfl, fun w' q => ?_⟩) ?_
  rotate_left
  · go_simp <;> with_reducible rfl
  try simp only [Act.put, List.setIfInBounds_toArray, List.set_cons_zero, List.set_cons_succ]
  refine rgx_1 7 (by kernel_rfl) ?_
  refine ⟨_, rfl, by rfl, fun K hK => ?_⟩
  go_simp
  have hb := (Below.refl x3.heap.size x3).alloc (Nat.le_refl _) (.cells #[.int .i64 ch, .int .i64 t15, .int .i64 t35, .slice none 0 0, .int .i64 0, .int .i64 0, .int .i64 0, .bool false, .int .i64 0, .int .i64 0] 79)
  have hBg : Box (x3.alloc (.cells #[.int .i64 ch, .int .i64 t15, .int .i64 t35, .slice none 0 0, .int .i64 0, .int .i64 0, .int .i64 0, .bool false, .int .i64 0, .int .i64 0] 79)) x3.heap.size (rcvCells ch t15 t35 (.slice none 0 0) 0 0 0 false 0 0) := Box.alloc_
  obtain ⟨g, hg⟩ : ∃ g, x3.heap.size = g := ⟨_, rfl⟩
  have hwg : w.heap.size ≤ g := by rw [← hg]; exact HBW.out.size
  have HWG := Lib.hid hwg
  have HBW := Lib.hid (ext_trans HBW.out hb)
  obtain ⟨x4, hW⟩ : ∃ W, x3.alloc (.cells #[.int .i64 ch, .int .i64 t15, .int .i64 t35, .slice none 0 0, .int .i64 0, .int .i64 0, .int .i64 0, .bool false, .int .i64 0, .int .i64 0] 79) = W := ⟨_, rfl⟩
  rw [hW] at HBW hBg hb ⊢
  rw [hg] at hBg ⊢
  have HBG := Lib.hid hBg
  refine hK (fun b => False) _ _ (fun b h => .inl h) (Mem.of_below hb) ?_
  clear hb hBg hwg hW hg
  clear hK K
  try simp only [Act.put, List.setIfInBounds_toArray, List.set_cons_zero, List.set_cons_succ]
  refine rgx_t (v := ?_) (some 2) 8 (by kernel_rfl) rfl rfl (.inl ⟨by rfl, fun w' q => ?_⟩) ?_
  rotate_left
  · go_simp <;> with_reducible rfl
  try simp only [Act.put, List.setIfInBounds_toArray, List.set_cons_zero, List.set_cons_succ]
  refine rgx_t (v := ?_) (some 3) 9 (by kernel_rfl) rfl rfl (.inl ⟨by rfl, fun w' q => ?_⟩) ?_
  rotate_left
  · go_simp <;> with_reducible rfl
  try simp only [Act.put, List.setIfInBounds_toArray, List.set_cons_zero, List.set_cons_succ]
  refine rgx_d (by kernel_rfl) ?_
  go_wp2
  exact bodyPost_ret (v := .tuple #[iptr g, .int .i64 0]) (by simp [results, Try.results31, go_sem]) rfl ⟨g, rfl, HBG.out, HWG.out, HBW.out⟩
end Go.Proofs.Ytoliplochipoeaa

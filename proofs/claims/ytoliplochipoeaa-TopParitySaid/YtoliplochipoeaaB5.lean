import Derived.Test.YtoliplochipoeaaB4
/- The receiver: Idle of an active receiver, ahead of the deadline and from it on. -/
set_option linter.unusedVariables false
set_option linter.unusedSimpArgs false
namespace Go.Proofs.Ytoliplochipoeaa
open Go.RowKit

set_option maxRecDepth 100000 in
set_option maxHeartbeats 4000000 in
theorem idle_early (ch t15 t35 : Int) (bs : Value) (fi la fl lt id_ t : Int) (g : Nat) (w : World) (hB : Box w g (rcvCells ch t15 t35 bs fi la fl true lt id_))
    (h1 : 0 ≤ ch) (h2 : ch ≤ 100000) (h3 : 0 ≤ t35) (h4 : t35 ≤ 100000) (h5 : 0 ≤ lt) (h6 : lt ≤ t) (h7 : id_ ≤ t) (h8 : t ≤ 1152921504606846976) (h9 : t < lt + t35 + ch) :
    Calls Try.prog 64 #[iptr g, .int .i64 t] w fun e w' => e = .returned (.tuple #[noFrame, .bool false]) ∧ Box w' g (rcvCells ch t15 t35 bs fi la fl true lt t) ∧ w.grownBy w' (some g) := by
  have HD := Lib.hid (fun (W : World) (h : Box W g (rcvCells ch t15 t35 bs fi la fl true lt t)) => show Calls Try.prog 76 #[.pointer (some ⟨g, 0, none⟩)] W (fun e w' => e = .returned (.tuple #[.int .i64 (lt + t35 + ch), .bool true]) ∧ Below W.heap.size W w') from deadline_any ch t15 t35 bs fi la fl true lt t g W h h1 h2 h3 h4 h5 (by omega))
  have hgl := hB.2.2
  have hB1 := hB.alloc' (.cells #[.slice none 0 0, .int .i64 0, .int .i64 0, .int .i64 0] 46)
  have hBf := Box.alloc_ (w := w) (cs := #[.slice none 0 0, .int .i64 0, .int .i64 0, .int .i64 0]) (e := 46)
  have hgr := one_alloc (one_refl w g) (.cells #[.slice none 0 0, .int .i64 0, .int .i64 0, .int .i64 0] 46)
  obtain ⟨bx, hbx⟩ : ∃ b, w.heap.size = b := ⟨_, rfl⟩
  obtain ⟨W1, hW1⟩ : ∃ W, w.alloc (.cells #[.slice none 0 0, .int .i64 0, .int .i64 0, .int .i64 0] 46) = W := ⟨_, rfl⟩
  rw [hW1] at hB1 hBf hgr
  rw [hbx] at hBf
  have HWB := Lib.hid (show w.heap.size ≤ bx by omega)
  have HNE := Lib.hid (show bx ≠ g by omega)
  have HB1 := Lib.hid hB1
  have HBf := Lib.hid hBf
  have HGR := Lib.hid hgr
  have d1 : decide (t < 0) = false := by simp; omega
  have d2 : decide (1152921504606846976 < t) = false := by simp; omega
  have d3 : decide (t < lt) = false := by simp; omega
  have d4 : decide (t < id_) = false := by simp; omega
  have d5 : decide (t < lt + t35 + ch) = true := by simp; omega
  obtain ⟨q, z, l⟩ := HB1.out
  unfold rcvCells at q
  clear h1 h2 h3 h4 h5 h6 h7 h8 h9 hB hB1 hBf hgr
  go_enter Try.func64, Try.ntmps64
  go_upto_region 3 with fail
  clear hW1 hbx
  have HB2 := Lib.hid (HB1.out.set (k := 9) (v := .int .i64 t) (cs' := rcvCells ch t15 t35 bs fi la fl true lt t) (by simp [rcvCells]) rfl)
  have hg2 := one_set (one_refl W1 g) 9 (.int .i64 t)
  have HBf2 := Lib.hid (HBf.out.grown hg2 HNE.out)
  have HGR2 := Lib.hid (one_set HGR.out 9 (.int .i64 t))
  clear hg2
  go_upto_region 4 with fail
  obtain ⟨W2, hW2⟩ : ∃ W, W1.setCell ⟨g, 9, none⟩ (.int .i64 t) = W := ⟨_, rfl⟩
  rw [hW2] at HB2 HBf2 HGR2 ⊢
  clear hW2 q z l
  go_wp2_with fail
  refine (HD.out _ HB2.out).mono ?_
  rintro e w3 ⟨rfl, hb3⟩
  have HB3 := Lib.hid (HB2.out.below hb3)
  have HBf3 := Lib.hid (HBf2.out.below hb3)
  have HGR3 := Lib.hid (one_below HGR2.out hb3)
  clear hb3
  obtain ⟨q, z, l⟩ := HB3.out
  unfold rcvCells at q
  obtain ⟨qf, zf, lf⟩ := HBf3.out
  go_wp2
  have hg4 := one_set (one_set (one_set (one_set (one_refl w3 bx) 0 (.slice none 0 0)) 1 (.int .i64 0)) 2 (.int .i64 0)) 3 (.int .i64 0)
  obtain ⟨qz, zz, lz⟩ := box_putz HBf3.out
  refine bodyPost_ret (v := .tuple #[noFrame, .bool false]) (by simp [results, Try.results64, go_sem, qz, zz, lz, noFrame]) rfl ⟨rfl, HB3.out.grown hg4 (Ne.symm HNE.out), ?_⟩
  exact one_set_new (one_set_new (one_set_new (one_set_new HGR3.out HWB.out 0 _) HWB.out 1 _) HWB.out 2 _) HWB.out 3 _
set_option maxRecDepth 100000 in
set_option maxHeartbeats 4000000 in
theorem idle_take (ch t15 t35 : Int) (A : Option Addr) (n c : Nat) (fi la fl lt id_ t : Int) (g : Nat) (w : World) (hB : Box w g (rcvCells ch t15 t35 (.slice A n c) fi la fl true lt id_))
    (h1 : 0 ≤ ch) (h2 : ch ≤ 100000) (h3 : 0 ≤ t35) (h4 : t35 ≤ 100000) (h5 : 0 ≤ lt) (h6 : lt ≤ t) (h7 : id_ ≤ t) (h8 : t ≤ 1152921504606846976) (h9 : lt + t35 + ch ≤ t) :
    Calls Try.prog 64 #[iptr g, .int .i64 t] w fun e w' => e = .returned (.tuple #[.agg #[.slice A n c, .int .i64 fi, .int .i64 la, .int .i64 fl], .bool true]) ∧ Box w' g (rcvCells ch t15 t35 (.slice none 0 0) 0 0 0 false lt t) ∧ w.grownBy w' (some g) := by
  have HD := Lib.hid (fun (W : World) (h : Box W g (rcvCells ch t15 t35 (.slice A n c) fi la fl true lt t)) => show Calls Try.prog 76 #[.pointer (some ⟨g, 0, none⟩)] W (fun e w' => e = .returned (.tuple #[.int .i64 (lt + t35 + ch), .bool true]) ∧ Below W.heap.size W w') from deadline_any ch t15 t35 (.slice A n c) fi la fl true lt t g W h h1 h2 h3 h4 h5 (by omega))
  have HT := Lib.hid (fun (W : World) (h : Box W g (rcvCells ch t15 t35 (.slice A n c) fi la fl true lt t)) => take_any ch t15 t35 A n c fi la fl true lt t g W h)
  have hgl := hB.2.2
  have hB1 := hB.alloc' (.cells #[.slice none 0 0, .int .i64 0, .int .i64 0, .int .i64 0] 46)
  have hBf := Box.alloc_ (w := w) (cs := #[.slice none 0 0, .int .i64 0, .int .i64 0, .int .i64 0]) (e := 46)
  have hgr := one_alloc (one_refl w g) (.cells #[.slice none 0 0, .int .i64 0, .int .i64 0, .int .i64 0] 46)
  obtain ⟨bx, hbx⟩ : ∃ b, w.heap.size = b := ⟨_, rfl⟩
  obtain ⟨W1, hW1⟩ : ∃ W, w.alloc (.cells #[.slice none 0 0, .int .i64 0, .int .i64 0, .int .i64 0] 46) = W := ⟨_, rfl⟩
  rw [hW1] at hB1 hBf hgr
  rw [hbx] at hBf
  have HWB := Lib.hid (show w.heap.size ≤ bx by omega)
  have HNE := Lib.hid (show bx ≠ g by omega)
  have HB1 := Lib.hid hB1
  have HBf := Lib.hid hBf
  have HGR := Lib.hid hgr
  have d1 : decide (t < 0) = false := by simp; omega
  have d2 : decide (1152921504606846976 < t) = false := by simp; omega
  have d3 : decide (t < lt) = false := by simp; omega
  have d4 : decide (t < id_) = false := by simp; omega
  have d5 : decide (t < lt + t35 + ch) = false := by simp; omega
  obtain ⟨q, z, l⟩ := HB1.out
  unfold rcvCells at q
  clear h1 h2 h3 h4 h5 h6 h7 h8 h9 hB hB1 hBf hgr
  go_enter Try.func64, Try.ntmps64
  go_upto_region 3 with fail
  clear hW1 hbx
  have HB2 := Lib.hid (HB1.out.set (k := 9) (v := .int .i64 t) (cs' := rcvCells ch t15 t35 (.slice A n c) fi la fl true lt t) (by simp [rcvCells]) rfl)
  have hg2 := one_set (one_refl W1 g) 9 (.int .i64 t)
  have HBf2 := Lib.hid (HBf.out.grown hg2 HNE.out)
  have HGR2 := Lib.hid (one_set HGR.out 9 (.int .i64 t))
  clear hg2
  go_upto_region 4 with fail
  obtain ⟨W2, hW2⟩ : ∃ W, W1.setCell ⟨g, 9, none⟩ (.int .i64 t) = W := ⟨_, rfl⟩
  rw [hW2] at HB2 HBf2 HGR2 ⊢
  clear hW2 q z l
  go_wp2_with fail
  refine (HD.out _ HB2.out).mono ?_
  rintro e w3 ⟨rfl, hb3⟩
  have HB3 := Lib.hid (HB2.out.below hb3)
  have HBf3 := Lib.hid (HBf2.out.below hb3)
  have HGR3 := Lib.hid (one_below HGR2.out hb3)
  clear hb3
  go_wp2_with fail
  refine (HT.out _ HB3.out).mono ?_
  rintro e w4 ⟨rfl, hB4, hg4⟩
  have HB4 := Lib.hid hB4
  have HBf4 := Lib.hid (HBf3.out.grown hg4 HNE.out)
  have hg5 := one_set (one_set (one_set (one_set (one_refl w4 bx) 0 (.slice A n c)) 1 (.int .i64 fi)) 2 (.int .i64 la)) 3 (.int .i64 fl)
  have HG5 := Lib.hid hg5
  have hgt : w.grownBy w4 (some g) := ⟨hg4.os.trans HGR3.out.os, hg4.tape.trans HGR3.out.tape, hg4.output.trans HGR3.out.output, Nat.le_trans HGR3.out.size hg4.size, fun i hi hn => (hg4.block i (Nat.lt_of_lt_of_le hi HGR3.out.size) hn).trans (HGR3.out.block i hi hn)⟩
  have HGT := Lib.hid hgt
  have HBz := Lib.hid ((((HBf4.out.set (k := 0) (v := .slice A n c) (cs' := #[.slice A n c, .int .i64 0, .int .i64 0, .int .i64 0]) (by simp) rfl).set (k := 1) (v := .int .i64 fi) (cs' := #[.slice A n c, .int .i64 fi, .int .i64 0, .int .i64 0]) (by simp) rfl).set (k := 2) (v := .int .i64 la) (cs' := #[.slice A n c, .int .i64 fi, .int .i64 la, .int .i64 0]) (by simp) rfl).set (k := 3) (v := .int .i64 fl) (cs' := #[.slice A n c, .int .i64 fi, .int .i64 la, .int .i64 fl]) (by simp) rfl)
  clear hB4 hg4 hg5 hgt
  obtain ⟨qf, zf, lf⟩ := HBf4.out
  go_wp2
  obtain ⟨qz, zz, lz⟩ := HBz.out
  refine bodyPost_ret (v := .tuple #[.agg #[.slice A n c, .int .i64 fi, .int .i64 la, .int .i64 fl], .bool true]) (by simp [results, Try.results64, go_sem, qz, zz, lz]) rfl ⟨rfl, HB4.out.grown HG5.out (Ne.symm HNE.out), ?_⟩
  exact one_set_new (one_set_new (one_set_new (one_set_new HGT.out HWB.out 0 _) HWB.out 1 _) HWB.out 2 _) HWB.out 3 _
end Go.Proofs.Ytoliplochipoeaa

/- The receiver: New. -/
set_option linter.unusedVariables false
set_option linter.unusedSimpArgs false
namespace Go.Proofs.Ytoliplochipoeaa
open Go.RowKit

theorem new_bad (b p : Int) (hv : validB b p = false) (w : World) :
    Calls Try.prog 31 #[.agg #[.int .i64 b, .int .i64 p]] w fun e w' => e = .returned (.tuple #[.pointer none, .int .i64 5]) ∧ Below w.heap.size w w' := by
  have HV := Lib.hid (fun W => valid_any b p false hv W)
  have hb0 : Below w.heap.size w (w.alloc (.cells #[.int .i64 b, .int .i64 p] 24)) := (Below.refl _ _).alloc (Nat.le_refl _) _
  clear hv
  go_enter Try.func31, Try.ntmps31
  go_wp2_with fail
  refine (HV.out _).mono ?_
  rintro e w1 ⟨rfl, hb1⟩
  go_wp2
  exact bodyPost_ret (v := .tuple #[.pointer none, .int .i64 5]) (by simp [results, Try.results31, go_sem]) rfl ⟨rfl, ext_trans hb0 hb1⟩
set_option maxRecDepth 100000 in
set_option maxHeartbeats 4000000 in
theorem new_ok (b p ch t15 t35 : Int) (hv : validB b p = true) (h1 : charZ b p = ch) (h2 : t15Z b p = t15) (h3 : t35Z b p = t35) (w : World) :
    Calls Try.prog 31 #[.agg #[.int .i64 b, .int .i64 p]] w fun e w' => ∃ g, e = .returned (.tuple #[iptr g, .int .i64 0]) ∧ Box w' g (rcvCells ch t15 t35 (.slice none 0 0) 0 0 0 false 0 0) ∧ w.heap.size ≤ g ∧ Below w.heap.size w w' := by
  have HV := Lib.hid (fun W => valid_any b p true hv W)
  have HC := Lib.hid (fun W => char_any b p W)
  have H15 := Lib.hid (fun W => t15_any b p W)
  have H35 := Lib.hid (fun W => t35_any b p W)
  rw [h1] at HC
  rw [h2] at H15
  rw [h3] at H35
  have hb0 : Below w.heap.size w (w.alloc (.cells #[.int .i64 b, .int .i64 p] 24)) := (Below.refl _ _).alloc (Nat.le_refl _) _
  have HBs := Lib.hid (Box.alloc_ (w := w) (cs := #[.int .i64 b, .int .i64 p]) (e := 24))
  clear hv h1 h2 h3
  go_enter Try.func31, Try.ntmps31
  go_wp2_with fail
  refine (HV.out _).mono ?_
  rintro e w1 ⟨rfl, hb1⟩
  have hbw := ext_trans hb0 hb1
  have HBs := Lib.hid (HBs.out.below hb1)
  clear hb0 hb1
  go_upto_region 3 with fail
  have hbw2 := below_drew hbw
  obtain ⟨qs, zs, ls⟩ := HBs.out.drew
  obtain ⟨x0, hx0⟩ : ∃ x, w1.drew = x := ⟨_, rfl⟩
  rw [hx0] at qs zs ls hbw2
  have y0 : x0.cell? ⟨w.heap.size, 0, none⟩ = some (.int .i64 b) := qs 0
  have y1 : x0.cell? ⟨w.heap.size, 1, none⟩ = some (.int .i64 p) := qs 1
  have HBW := Lib.hid hbw2
  obtain ⟨bs, hbs⟩ : ∃ b, w.heap.size = b := ⟨_, rfl⟩
  rw [hbs] at y0 y1 ls
  rw [hbs]
  have HBS := Lib.hid hbs
  clear qs zs hbw hbw2 HBs hbs
  refine rgx_start (by kernel_rfl) ?_
  rw [hx0]
  refine rgx_t (v := ?_) (some 7) 0 (by kernel_rfl) rfl rfl (.inl ⟨by rfl, fun w' q => ?_⟩) ?_
  rotate_left
  · go_simp <;> with_reducible rfl
  try simp only [Act.put, List.setIfInBounds_toArray, List.set_cons_zero, List.set_cons_succ]
  refine rgx_t (v := ?_) (some 9) 2 (by kernel_rfl) rfl rfl (.inl ⟨by rfl, fun w' q => ?_⟩) ?_
  rotate_left
  · go_simp <;> with_reducible rfl
  try simp only [Act.put, List.setIfInBounds_toArray, List.set_cons_zero, List.set_cons_succ]
  refine rgx_t (v := ?_) (some 11) 4 (by kernel_rfl) rfl rfl (.inl ⟨by rfl, fun w' q => ?_⟩) ?_
  rotate_left
  · go_simp <;> with_reducible rfl
  try simp only [Act.put, List.setIfInBounds_toArray, List.set_cons_zero, List.set_cons_succ]
  refine rgx_1 1 (by kernel_rfl) ?_
  refine ⟨_, rfl, by rfl, fun K hK => ?_⟩
  go_simp
  refine (HC.out _).mono ?_
  rintro e x1 ⟨rfl, hb⟩
  have HBW := Lib.hid (ext_trans HBW.out hb)
  refine hK (fun b => False) _ _ (fun b h => .inl h) (Mem.of_below hb) ?_
  clear hb
  clear hK K
  try simp only [Act.put, List.setIfInBounds_toArray, List.set_cons_zero, List.set_cons_succ]
  refine rgx_1 3 (by kernel_rfl) ?_
  refine ⟨_, rfl, by rfl, fun K hK => ?_⟩
  go_simp
  refine (H15.out _).mono ?_
  rintro e x2 ⟨rfl, hb⟩
  have HBW := Lib.hid (ext_trans HBW.out hb)
  refine hK (fun b => False) _ _ (fun b h => .inl h) (Mem.of_below hb) ?_
  clear hb
  clear hK K
  try simp only [Act.put, List.setIfInBounds_toArray, List.set_cons_zero, List.set_cons_succ]
  refine rgx_1 5 (by kernel_rfl) ?_
  refine ⟨_, rfl, by rfl, fun K hK => ?_⟩
  go_simp
  refine (H35.out _).mono ?_
  rintro e x3 ⟨rfl, hb⟩
  have HBW := Lib.hid (ext_trans HBW.out hb)
  refine hK (fun b => False) _ _ (fun b h => .inl h) (Mem.of_below hb) ?_
  clear hb
  clear hK K
  try simp only [Act.put, List.setIfInBounds_toArray, List.set_cons_zero, List.set_cons_succ]
  refine rgx_t (v := ?_) (some 13) 6 (by kernel_rfl) rfl rfl (.inl ⟨by rfl, fun w' q => ?_⟩) ?_
  rotate_left
  · go_simp <;> with_reducible rfl
  try simp only [Act.put, List.setIfInBounds_toArray, List.set_cons_zero, List.set_cons_succ]
  refine rgx_1 7 (by kernel_rfl) ?_
  refine ⟨_, rfl, by rfl, fun K hK => ?_⟩
  go_simp
  have hb := (Below.refl x3.heap.size x3).alloc (Nat.le_refl _) (.cells #[.int .i64 ch, .int .i64 t15, .int .i64 t35, .slice none 0 0, .int .i64 0, .int .i64 0, .int .i64 0, .bool false, .int .i64 0, .int .i64 0] 79)
  have hBg : Box (x3.alloc (.cells #[.int .i64 ch, .int .i64 t15, .int .i64 t35, .slice none 0 0, .int .i64 0, .int .i64 0, .int .i64 0, .bool false, .int .i64 0, .int .i64 0] 79)) x3.heap.size (rcvCells ch t15 t35 (.slice none 0 0) 0 0 0 false 0 0) := Box.alloc_
  obtain ⟨g, hg⟩ : ∃ g, x3.heap.size = g := ⟨_, rfl⟩
  have hwg : w.heap.size ≤ g := by rw [← hg]; exact HBW.out.size
  have HWG := Lib.hid hwg
  have HBW := Lib.hid (ext_trans HBW.out hb)
  obtain ⟨x4, hW⟩ : ∃ W, x3.alloc (.cells #[.int .i64 ch, .int .i64 t15, .int .i64 t35, .slice none 0 0, .int .i64 0, .int .i64 0, .int .i64 0, .bool false, .int .i64 0, .int .i64 0] 79) = W := ⟨_, rfl⟩
  rw [hW] at HBW hBg hb ⊢
  rw [hg] at hBg ⊢
  have HBG := Lib.hid hBg
  refine hK (fun b => False) _ _ (fun b h => .inl h) (Mem.of_below hb) ?_
  clear hb hBg hwg hW hg
  clear hK K
  try simp only [Act.put, List.setIfInBounds_toArray, List.set_cons_zero, List.set_cons_succ]
  refine rgx_t (v := ?_) (some 2) 8 (by kernel_rfl) rfl rfl (.inl ⟨by rfl, fun w' q => ?_⟩) ?_
  rotate_left
  · go_simp <;> with_reducible rfl
  try simp only [Act.put, List.setIfInBounds_toArray, List.set_cons_zero, List.set_cons_succ]
  refine rgx_t (v := ?_) (some 3) 9 (by kernel_rfl) rfl rfl (.inl ⟨by rfl, fun w' q => ?_⟩) ?_
  rotate_left
  · go_simp <;> with_reducible rfl
  try simp only [Act.put, List.setIfInBounds_toArray, List.set_cons_zero, List.set_cons_succ]
  refine rgx_d (by kernel_rfl) ?_
  go_wp2
  exact bodyPost_ret (v := .tuple #[iptr g, .int .i64 0]) (by simp [results, Try.results31, go_sem]) rfl ⟨g, rfl, HBG.out, HWG.out, HBW.out⟩
end Go.Proofs.Ytoliplochipoeaa

/- The receiver: plain words; a list of frames in memory; the state of Split's loop. -/
set_option linter.unusedVariables false
set_option linter.unusedSimpArgs false
namespace Go.Proofs.Ytoliplochipoeaa
open Go.RowKit

/-- A character. -/
structure Ev where
  at_ : Int
  val : Int
  fl : Int
abbrev evCells (l : List Ev) : List Value := (l.map fun e => [Value.int .i64 e.at_, .int .u8 e.val, .int .i64 e.fl]).flatten
/-- A frame in memory; its content. -/
structure Fr where
  A : Option Addr
  n : Nat
  c : Nat
  xs : List Int
  fi : Int
  la : Int
  fl : Int
structure Fz where
  xs : List Int
  fi : Int
  la : Int
  fl : Int
abbrev frRow (f : Fr) : List Value := [.slice f.A f.n f.c, .int .i64 f.fi, .int .i64 f.la, .int .i64 f.fl]
abbrev frCells (l : List Fr) : List Value := (l.map frRow).flatten
def fz (f : Fr) : Fz := ⟨f.xs, f.fi, f.la, f.fl⟩
/-- The receiver's plain state. -/
structure Rs where
  xs : List Int
  fi : Int
  la : Int
  fl : Int
  ac : Bool
  lt : Int
  id_ : Int
def Rs.zero : Rs := ⟨[], 0, 0, 0, false, 0, 0⟩
def Rs.frame (S : Rs) : Fz := ⟨S.xs, S.fi, S.la, S.fl⟩
def addS (t15 : Int) (S : Rs) (sil : Int) (e : Ev) : Rs :=
  ⟨if S.xs.length < 256 then S.xs ++ [e.val] else S.xs, if S.ac then S.fi else e.at_, e.at_, addFl S.ac sil t15 S.xs.length S.fl e.fl, true, e.at_, S.id_⟩
def silS (ch : Int) (S : Rs) (e : Ev) : Int := max 0 (e.at_ - ch - S.lt)
def takeS (S : Rs) : Rs := ⟨[], 0, 0, 0, false, S.lt, S.id_⟩
def endS (ch t35 : Int) (S : Rs) (e : Ev) : Bool := S.ac && decide (t35 ≤ silS ch S e)
def charS (ch t15 t35 : Int) (S : Rs) (e : Ev) : Rs := addS t15 (if endS ch t35 S e then takeS S else S) (silS ch S e) e
/-- The frames that a list of characters ends, and the state behind it. -/
def runS (ch t15 t35 : Int) : Rs → List Ev → List Fz × Rs
  | S, [] => ([], S)
  | S, e :: l => ((if endS ch t35 S e then [S.frame] else []) ++ (runS ch t15 t35 (charS ch t15 t35 S e) l).1, (runS ch t15 t35 (charS ch t15 t35 S e) l).2)
theorem runS_append (ch t15 t35 : Int) (S : Rs) (l m : List Ev) : runS ch t15 t35 S (l ++ m) = ((runS ch t15 t35 S l).1 ++ (runS ch t15 t35 (runS ch t15 t35 S l).2 m).1, (runS ch t15 t35 (runS ch t15 t35 S l).2 m).2) := by
  induction l generalizing S with
  | nil => simp [runS]
  | cons e t ih => simp [runS, ih]
theorem runS_snoc (ch t15 t35 : Int) (S : Rs) (l : List Ev) (e : Ev) : runS ch t15 t35 S (l ++ [e]) = ((runS ch t15 t35 S l).1 ++ (if endS ch t35 (runS ch t15 t35 S l).2 e then [(runS ch t15 t35 S l).2.frame] else []), charS ch t15 t35 (runS ch t15 t35 S l).2 e) := by
  rw [runS_append]; simp [runS]
/-- All the frames of a list. -/
def framesS (ch t15 t35 : Int) (l : List Ev) : List Fz := (runS ch t15 t35 .zero l).1 ++ (if (runS ch t15 t35 .zero l).2.ac then [(runS ch t15 t35 .zero l).2.frame] else [])
theorem runS_len (ch t15 t35 : Int) (S : Rs) (l : List Ev) : (runS ch t15 t35 S l).1.length ≤ l.length := by
  induction l generalizing S with
  | nil => simp [runS]
  | cons e t ih => have := ih (charS ch t15 t35 S e); simp only [runS, List.length_append, List.length_cons]; split <;> simp <;> omega
theorem addS_xs (t15 : Int) (S : Rs) (sil : Int) (e : Ev) (h : S.xs.length ≤ 256) : (addS t15 S sil e).xs.length ≤ 256 := by
  simp only [addS]
  split
  · simp; omega
  · exact h
theorem charS_xs (ch t15 t35 : Int) (S : Rs) (e : Ev) (h : S.xs.length ≤ 256) : (charS ch t15 t35 S e).xs.length ≤ 256 := by
  refine addS_xs _ _ _ _ ?_
  split
  · simp [takeS]
  · exact h
theorem runS_xs (ch t15 t35 : Int) (S : Rs) (l : List Ev) (h : S.xs.length ≤ 256) : (runS ch t15 t35 S l).2.xs.length ≤ 256 := by
  induction l generalizing S with
  | nil => exact h
  | cons e t ih => exact ih _ (charS_xs ch t15 t35 S e h)

def FrOk (w : World) (N : Nat → Prop) (f : Fr) : Prop := Rd w w.heap.size 1 f.A f.n (by8 f.xs) ∧ (0 < f.n → ∀ b off, f.A = some ⟨b, off, none⟩ → ¬ N b) ∧ f.n ≤ f.c ∧ f.c ≤ maxLen
theorem own_caps {w : World} {base : Nat} {e : TypeId} {size n m c : Nat} {A : Option Addr} {xs : List Value} (h : w.ownsRow base e size (.slice A n c) m xs) : n ≤ c ∧ c ≤ maxLen := by
  rcases h.2 with ⟨h, _⟩ | ⟨g, cap, cur, hv, _, _, h1, h2, _⟩
  · injection h with _ h1 h2
    subst h1 h2
    exact ⟨Nat.le_refl _, by simp [maxLen]⟩
  · injection hv with _ h3 h4
    subst h3 h4
    exact ⟨h1, h2⟩
theorem FrOk.move {w w' : World} {N N' : Nat → Prop} {f : Fr} (h : FrOk w N f) (hs : w.heap.size ≤ w'.heap.size) (hk : ∀ b, b < w.heap.size → ¬ N b → w'.heap[b]? = w.heap[b]?) (hN : ∀ b, b < w.heap.size → N' b → N b) : FrOk w' N' f := by
  obtain ⟨h1, h2, h3⟩ := h
  refine ⟨⟨h1.1, fun hn => ?_⟩, fun hn b off e hb => ?_, h3⟩
  · obtain ⟨b, off, e, hb, hc⟩ := h1.2 hn
    refine ⟨b, off, e, by omega, fun j u hu => ?_⟩
    rw [World.cell?_of_block (a := ⟨b, off + j, none⟩) (hk b hb (h2 hn b off e))]
    exact hc j u hu
  · obtain ⟨b2, off2, e2, hb2, _⟩ := h1.2 hn
    rw [e] at e2
    injection e2 with e2
    injection e2 with e3 _
    subst e3
    exact h2 hn b off e (hN b hb2 hb)
abbrev NB (g : Nat) (v vo : Value) (b : Nat) : Prop := b = g ∨ some b = v.ownBlock ∨ some b = vo.ownBlock
/-- The receiver in state S, and the list of frames. -/
def SpSt (w0 w : World) (g : Nat) (v vo : Value) (ch t15 t35 : Int) (S : Rs) (l : List Fr) : Prop :=
  RB w g v ch t15 t35 S.xs S.fi S.la S.fl S.ac S.lt S.id_ ∧ w.ownsRow w0.heap.size 46 4 vo l.length (frCells l) ∧ some g ≠ vo.ownBlock ∧ (∀ b, v.ownBlock = some b → vo.ownBlock ≠ some b) ∧ (∀ f ∈ l, FrOk w (NB g v vo) f) ∧ w0.heap.size ≤ g ∧ Below w0.heap.size w0 w
theorem own_chg {w w' : World} {base g : Nat} {e : TypeId} {size n : Nat} {v : Value} {xs : List Value} {row : Option Nat} (h : w.ownsRow base e size v n xs) (hc : Chg w w' g row) (h1 : some g ≠ v.ownBlock) (h2 : ∀ b, v.ownBlock = some b → some b ≠ row) : w'.ownsRow base e size v n xs := by
  refine ⟨h.1, ?_⟩
  rcases h.2 with hn | ⟨b, cap, cur, rfl, hb', hgg, rest⟩
  · exact .inl hn
  · refine .inr ⟨b, cap, cur, rfl, hb', ?_, rest⟩
    rw [hc.2.2.2.2 b (Array.getElem?_eq_some_iff.1 hgg).1 (fun e => h1 (by rw [← e]; rfl)) (h2 b rfl)]
    exact hgg
theorem SpSt.below {w0 w w' : World} {g : Nat} {v vo : Value} {ch t15 t35 : Int} {S : Rs} {l : List Fr} (h : SpSt w0 w g v vo ch t15 t35 S l) (hb : Below w.heap.size w w') : SpSt w0 w' g v vo ch t15 t35 S l := by
  obtain ⟨h1, h2, h3, h4, h5, h6, h7⟩ := h
  exact ⟨h1.below hb, own_below h2 hb (Nat.le_refl _), h3, h4, fun f hf => (h5 f hf).move hb.size (fun b hlt _ => hb.block b hlt) (fun _ _ h => h), h6, ext_trans h7 hb⟩
theorem below_chg {B : Nat} {w0 w w' : World} {g : Nat} {row : Option Nat} (h : Below B w0 w) (hc : Chg w w' g row) (hB : B ≤ w.heap.size) (hg : B ≤ g) (hr : ∀ b, row = some b → B ≤ b) : Below B w0 w' :=
  ⟨hc.1.trans h.os, hc.2.1.trans h.tape, hc.2.2.1.trans h.output, Nat.le_trans h.size hc.2.2.2.1, fun i hi => (hc.2.2.2.2 i (Nat.lt_of_lt_of_le hi hB) (by omega) (fun e => by have := hr i e.symm; omega)).trans (h.block i hi)⟩
/-- The receiver has gone on, its row in place or anew. -/
theorem SpSt.keep {w0 w w' : World} {g : Nat} {v v' vo : Value} {ch t15 t35 : Int} {S S' : Rs} {l : List Fr} (h : SpSt w0 w g v vo ch t15 t35 S l) (hR : RB w' g v' ch t15 t35 S'.xs S'.fi S'.la S'.fl S'.ac S'.lt S'.id_) (hv : v'.ownBlock = v.ownBlock ∨ ∃ b, v'.ownBlock = some b ∧ w.heap.size ≤ b) (hc : Chg w w' g v.ownBlock) : SpSt w0 w' g v' vo ch t15 t35 S' l := by
  obtain ⟨h1, h2, h3, h4, h5, h6, h7⟩ := h
  refine ⟨hR, own_chg h2 hc h3 (fun b hb e => h4 b e.symm hb), h3, fun b hb e => ?_, fun f hf => (h5 f hf).move hc.2.2.2.1 (fun b hlt hn => hc.2.2.2.2 b hlt (fun e => hn (.inl e)) (fun e => hn (.inr (.inl e)))) (fun b hlt hn => ?_), h6, below_chg h7 hc h7.size h6 (fun b hb => by have := (h1.2.lt b hb).1; omega)⟩
  · rcases hv with hv | ⟨c, hv, hc⟩
    · exact h4 b (by rw [← hv]; exact hb) e
    · rw [hv] at hb; injection hb with hb; have := (h2.lt b e).2; omega
  · rcases hn with hn | hn | hn
    · exact .inl hn
    · rcases hv with hv | ⟨c, hv, hc⟩
      · exact .inr (.inl (by rw [← hv]; exact hn))
      · rw [hv] at hn; injection hn with hn; omega
    · exact .inr (.inr hn)
/-- A frame has ended: its row is the caller's. -/
theorem SpSt.end_ {w0 w w' : World} {g : Nat} {A : Option Addr} {n c : Nat} {v' vo : Value} {ch t15 t35 : Int} {S S' : Rs} {l : List Fr} (h : SpSt w0 w g (.slice A n c) vo ch t15 t35 S l) (hR : RB w' g v' ch t15 t35 S'.xs S'.fi S'.la S'.fl S'.ac S'.lt S'.id_) (hv : v'.ownBlock = none ∨ ∃ b, v'.ownBlock = some b ∧ w.heap.size ≤ b) (hc : Chg w w' g none) :
    SpSt w0 w' g v' vo ch t15 t35 S' l ∧ FrOk w' (NB g v' vo) ⟨A, n, c, S.xs, S.fi, S.la, S.fl⟩ := by
  obtain ⟨h1, h2, h3, h4, h5, h6, h7⟩ := h
  obtain ⟨A', c', hv2, _, hrd⟩ := own_form h1.2
  injection hv2 with e1 e2 e3
  subst e1
  subst e3
  have hnew : ∀ b, b < w.heap.size → some b ≠ v'.ownBlock := by
    intro b hb e
    rcases hv with hv | ⟨c, hv, hc⟩
    · rw [hv] at e; cases e
    · rw [hv] at e; injection e with e; omega
  refine ⟨⟨hR, own_chg h2 hc h3 (fun b hb e => by cases e), h3, fun b hb e => ?_, fun f hf => (h5 f hf).move hc.2.2.2.1 (fun b hlt hn => hc.2.2.2.2 b hlt (fun e => hn (.inl e)) (fun e => by cases e)) (fun b hlt hn => ?_), h6, below_chg h7 hc h7.size h6 (fun b hb => by cases hb)⟩, ?_⟩
  · exact hnew b (h2.lt b e).2 hb.symm
  · rcases hn with hn | hn | hn
    · exact .inl hn
    · exact absurd hn (hnew b hlt)
    · exact .inr (.inr hn)
  · have hok : FrOk w (fun b => b = g ∨ some b = vo.ownBlock) ⟨A, n, c, S.xs, S.fi, S.la, S.fl⟩ := by
      refine ⟨e2 ▸ hrd, fun hn b off e hb => ?_, own_caps h1.2⟩
      simp only at e hn
      subst e
      have hob : (Value.slice (some ⟨b, off, none⟩) n c).ownBlock = some b := rfl
      rcases hb with hb | hb
      · have := (h1.2.lt b hob).1; omega
      · exact h4 b hob hb.symm
    exact hok.move hc.2.2.2.1 (fun b hlt hn => hc.2.2.2.2 b hlt (fun e => hn (.inl e)) (fun e => by cases e)) (fun b hlt hn => by
      rcases hn with hn | hn | hn
      · exact .inl hn
      · exact absurd hn (hnew b hlt)
      · exact .inr hn)
/-- A frame is appended to the list. -/
theorem SpSt.app {w0 w w' : World} {g : Nat} {v vo vo' : Value} {ch t15 t35 : Int} {S : Rs} {l : List Fr} {f : Fr} (h : SpSt w0 w g v vo ch t15 t35 S l) (hf : FrOk w (NB g v vo) f) (hown : w'.ownsRow w0.heap.size 46 4 vo' (l.length + 1) (frCells l ++ frRow f)) (hg : w.grownBy w' vo.ownBlock) (hn : OwnNext w vo vo') : SpSt w0 w' g v vo' ch t15 t35 S (l ++ [f]) := by
  obtain ⟨h1, h2, h3, h4, h5, h6, h7⟩ := h
  have hnew : vo'.ownBlock = vo.ownBlock ∨ ∃ b, vo'.ownBlock = some b ∧ w.heap.size ≤ b := hn
  have hmv : ∀ x, FrOk w (NB g v vo) x → FrOk w' (NB g v vo') x := fun x hx => hx.move hg.size (fun b hlt hnb => hg.block b hlt (fun e => hnb (.inr (.inr e)))) (fun b hlt hnb => by
    rcases hnb with hnb | hnb | hnb
    · exact .inl hnb
    · exact .inr (.inl hnb)
    · rcases hnew with e | ⟨c, e, hc⟩
      · exact .inr (.inr (by rw [← e]; exact hnb))
      · rw [e] at hnb; injection hnb with hnb; omega)
  refine ⟨h1.other hg (Ne.symm h3) (fun b hb => h4 b hb), ?_, fun e => ?_, fun b hb e => ?_, fun x hx => ?_, h6, h7.grown hg h7.size (fun k hk => (h2.lt k hk).1)⟩
  · rw [List.length_append, show frCells (l ++ [f]) = frCells l ++ frRow f by simp [frCells]]; exact hown
  · rcases hnew with e2 | ⟨c, e2, hc⟩
    · exact h3 (by rw [← e2]; exact e)
    · rw [e2] at e; injection e with e; have := h1.1.2.2; omega
  · rcases hnew with e2 | ⟨c, e2, hc⟩
    · exact h4 b hb (by rw [← e2]; exact e)
    · rw [e2] at e; injection e with e; have := (h1.2.lt b hb).2; omega
  · rcases List.mem_append.1 hx with hx | hx
    · exact hmv x (h5 x hx)
    · obtain rfl : x = f := by simpa using hx
      exact hmv x hf
theorem evCells_length (l : List Ev) : (evCells l).length = l.length * 3 := by
  induction l with
  | nil => rfl
  | cons e t ih => simp [evCells] at ih ⊢; omega
theorem evCells_get (l : List Ev) (k : Nat) (h : k < l.length) : (evCells l)[k * 3]? = some (.int .i64 l[k].at_) ∧ (evCells l)[k * 3 + 1]? = some (.int .u8 l[k].val) ∧ (evCells l)[k * 3 + 2]? = some (.int .i64 l[k].fl) := by
  induction l generalizing k with
  | nil => cases h
  | cons e t ih =>
    rcases k with _ | k
    · simp [evCells]
    · have := ih k (by simpa using h)
      rw [show (k + 1) * 3 = k * 3 + 3 by omega, show k * 3 + 3 + 1 = k * 3 + 1 + 3 by omega, show k * 3 + 3 + 2 = k * 3 + 2 + 3 by omega]
      simpa [evCells] using this
theorem ev_at {w : World} {B n : Nat} {A : Option Addr} {l : List Ev} (h : Rd w B 3 A n (evCells l)) (k : Nat) (hk : k < n) :
    ∃ b off, A = some ⟨b, off, none⟩ ∧ b < B ∧ ∃ (hk : k < l.length), w.cell? ⟨b, off + k * 3, none⟩ = some (.int .i64 l[k].at_) ∧ w.cell? ⟨b, off + k * 3 + 1, none⟩ = some (.int .u8 l[k].val) ∧ w.cell? ⟨b, off + k * 3 + 2, none⟩ = some (.int .i64 l[k].fl) := by
  have hl : l.length = n := by have h1 := h.1; rw [evCells_length] at h1; omega
  obtain ⟨b, off, e, hb, hc⟩ := h.2 (by omega)
  have hk2 : k < l.length := by omega
  obtain ⟨g0, g1, g2⟩ := evCells_get l k hk2
  exact ⟨b, off, e, hb, hk2, hc _ _ g0, hc _ _ g1, hc _ _ g2⟩
theorem Rd.elen {w : World} {B n : Nat} {A : Option Addr} {l : List Ev} (h : Rd w B 3 A n (evCells l)) : l.length = n := by
  have h1 := h.1; rw [evCells_length] at h1; omega
theorem frInfo : (Try.prog.info? 46).map (fun i => (i.zero, i.size, i.bytes)) = some (some (.agg #[.slice none 0 0, .int .i64 0, .int .i64 0, .int .i64 0]), 4, 48) := by kernel_rfl
end Go.Proofs.Ytoliplochipoeaa

/- The receiver: Split. -/
set_option linter.unusedVariables false
set_option linter.unusedSimpArgs false
namespace Go.Proofs.Ytoliplochipoeaa
open Go.RowKit

def inR (e : Ev) : Bool := decide (0 ≤ e.at_ ∧ e.at_ ≤ 1152921504606846976)
def ordE (p : Int) : List Ev → Bool
  | [] => true
  | e :: t => decide (p ≤ e.at_) && ordE e.at_ t
def lastE (p : Int) : List Ev → Int
  | [] => p
  | e :: t => lastE e.at_ t
theorem ordE_snoc (p : Int) (l : List Ev) (e : Ev) : ordE p (l ++ [e]) = (ordE p l && decide (lastE p l ≤ e.at_)) := by
  induction l generalizing p with
  | nil => simp only [List.nil_append, ordE, lastE, Bool.and_true, Bool.true_and]; rfl
  | cons y t ih => simp only [List.cons_append, ordE, lastE, ih, Bool.and_assoc]; rfl
theorem lastE_snoc (p : Int) (l : List Ev) (e : Ev) : lastE p (l ++ [e]) = e.at_ := by
  induction l generalizing p with
  | nil => rfl
  | cons y t ih => simpa [lastE] using ih y.at_
theorem ordE_take (p : Int) (l : List Ev) (k : Nat) (h : ordE p l = true) : ordE p (l.take k) = true := by
  induction l generalizing p k with
  | nil => simp [ordE]
  | cons y t ih =>
    simp only [ordE, Bool.and_eq_true, decide_eq_true_eq] at h
    cases k with
    | zero => rfl
    | succ k => simp only [List.take_succ_cons, ordE, Bool.and_eq_true, decide_eq_true_eq]; exact ⟨h.1, ih _ k h.2⟩
theorem charS_lt (ch t15 t35 : Int) (S : Rs) (e : Ev) : (charS ch t15 t35 S e).lt = e.at_ ∧ (charS ch t15 t35 S e).id_ = S.id_ := by
  simp only [charS, addS]
  refine ⟨trivial, ?_⟩
  split <;> rfl
theorem runS_lt (ch t15 t35 : Int) (S : Rs) (l : List Ev) : (runS ch t15 t35 S l).2.lt = lastE S.lt l ∧ (runS ch t15 t35 S l).2.id_ = S.id_ := by
  induction l generalizing S with
  | nil => exact ⟨rfl, rfl⟩
  | cons e t ih =>
    have := ih (charS ch t15 t35 S e)
    rw [(charS_lt ch t15 t35 S e).1, (charS_lt ch t15 t35 S e).2] at this
    exact this
theorem lastE_nonneg (p : Int) (l : List Ev) (hp : 0 ≤ p) (h : l.all inR = true) : 0 ≤ lastE p l := by
  induction l generalizing p with
  | nil => exact hp
  | cons e t ih =>
    simp only [List.all_cons, Bool.and_eq_true, inR, decide_eq_true_eq] at h
    exact ih _ h.1.1 (by simpa [inR] using h.2)
theorem all_snoc (l : List Ev) (k : Nat) (hk : k < l.length) : (l.take (k + 1)).all inR = ((l.take k).all inR && inR l[k]) := by
  rw [List.take_succ_eq_append_getElem hk, List.all_append]; simp
theorem alle_take (l : List Ev) (k : Nat) (h : l.all inR = true) : (l.take k).all inR = true := by
  rw [List.all_eq_true] at h ⊢
  exact fun x hx => h x (List.mem_of_mem_take hx)
def SplitOk (w w' : World) (ch t15 t35 : Int) (evs : List Ev) (vo : Value) (E : Int) : Prop :=
  Below w.heap.size w w' ∧ ((evs.all inR = false ∧ E = 3 ∧ vo = .slice none 0 0) ∨ (evs.all inR = true ∧ ordE 0 evs = false ∧ E = 7 ∧ vo = .slice none 0 0) ∨ (evs.all inR = true ∧ ordE 0 evs = true ∧ E = 0 ∧ ∃ (l : List Fr) (Ao : Option Addr) (co : Nat), vo = .slice Ao l.length co ∧ Rd w' w'.heap.size 4 Ao l.length (frCells l) ∧ (∀ f ∈ l, FrOk w' (fun _ => False) f) ∧ l.map fz = framesS ch t15 t35 evs))
theorem FrOk.below {w w' : World} {N : Nat → Prop} {f : Fr} (h : FrOk w N f) (hb : Below w.heap.size w w') : FrOk w' N f := h.move hb.size (fun b hlt _ => hb.block b hlt) (fun _ _ h => h)
theorem one_fr (f : Fr) : ∀ u ∈ frRow f, u.oneCell' = true := by
  intro u hu
  simp only [frRow, List.mem_cons, List.not_mem_nil, or_false] at hu
  rcases hu with rfl | rfl | rfl | rfl <;> rfl
theorem split_bad (b p : Int) (hv : validB b p = false) (v : Value) (w : World) :
    Calls Try.prog 13 #[.agg #[.int .i64 b, .int .i64 p], v] w fun e w' => e = .returned (.tuple #[.slice none 0 0, .int .i64 5]) ∧ Below w.heap.size w w' := by
  have HN := Lib.hid (fun W => new_bad b p hv W)
  have hb0 : Below w.heap.size w (w.alloc (.cells #[.int .i64 b, .int .i64 p] 24)) := (Below.refl _ _).alloc (Nat.le_refl _) _
  clear hv
  go_enter Try.func13, Try.ntmps13
  go_wp2_with fail
  refine (HN.out _).mono ?_
  rintro e w1 ⟨rfl, hb1⟩
  go_wp2
  exact bodyPost_ret (v := .tuple #[.slice none 0 0, .int .i64 5]) (by simp [results, Try.results13, go_sem]) rfl ⟨rfl, ext_trans hb0 hb1⟩
set_option maxRecDepth 100000 in
set_option maxHeartbeats 8000000 in
theorem split_ok (b p ch t15 t35 : Int) (hv : validB b p = true) (h1 : charZ b p = ch) (h2 : t15Z b p = t15) (h3 : t35Z b p = t35) (evs : List Ev) (A : Option Addr) (n c B : Nat) (w : World) (hr : Rd w B 3 A n (evCells evs)) (hB : B ≤ w.heap.size) (hn : n ≤ 1000) :
    Calls Try.prog 13 #[.agg #[.int .i64 b, .int .i64 p], .slice A n c] w fun e w' => ∃ vo E, e = .returned (.tuple #[vo, .int .i64 E]) ∧ SplitOk w w' ch t15 t35 evs vo E := by
  have HN := Lib.hid (fun W => new_ok b p ch t15 t35 hv h1 h2 h3 W)
  have hch := char_bd b p
  rw [h1] at hch
  have HCH := Lib.hid hch
  have hb0 : Below w.heap.size w (w.alloc (.cells #[.int .i64 b, .int .i64 p] 24)) := (Below.refl _ _).alloc (Nat.le_refl _) _
  have HEL := Lib.hid hr.elen
  have HR := Lib.hid hr
  have HBB := Lib.hid hB
  have HR0 := Lib.hid hr
  have HB0 := Lib.hid hB
  clear hv h1 h2 h3 hch hr hB
  go_enter Try.func13, Try.ntmps13
  go_wp2_with fail
  refine (HN.out _).mono ?_
  rintro e w1 ⟨g, rfl, hBg, hwg, hb1⟩
  have hbw := ext_trans hb0 hb1
  have hst : SpSt w w1 g (.slice none 0 0) (.slice none 0 0) ch t15 t35 .zero [] :=
    ⟨⟨hBg, rfl, .inl ⟨rfl, rfl⟩⟩, ⟨rfl, .inl ⟨rfl, rfl⟩⟩, (fun e => by cases e), (fun b hb => by cases hb), (fun f hf => by cases hf), Nat.le_trans (by simp) hwg, hbw⟩
  have HST := Lib.hid hst
  have HR1 := Lib.hid (HR.out.below hbw HBB.out)
  have HB1 := Lib.hid (show B ≤ w1.heap.size from Nat.le_trans HBB.out hbw.size)
  clear hst hBg hwg hb0 hb1 hbw HR HBB
  go_wp2_with fail
  go_loopw [9, 26] (fun xb i wr => ∃ k : Nat, k ≤ n ∧ i = .int .i64 k ∧ (evs.take k).all inR = true ∧ Below w1.heap.size w1 wr) (fun _ i _ => n - (intOf i).toNat)
  case atStart => exact ⟨0, by omega, rfl, by simp, Below.refl _ _⟩
  case round =>
    obtain ⟨k, hk, rfl, hall, hbr⟩ := hrel
    have HALL := Lib.hid hall
    have HBR := Lib.hid hbr
    clear hall hbr
    by_cases hlt : k < n
    · have hRk := HR1.out.below HBR.out HB1.out
      obtain ⟨b0, off, rfl, hbl, hk', c0, c1, c2⟩ := ev_at hRk k hlt
      have hsn := all_snoc evs k hk'
      have hmem : inR evs[k] = false → evs.all inR = false := fun h => by
        rw [Bool.eq_false_iff]
        intro ha
        rw [List.all_eq_true] at ha
        rw [ha _ (List.getElem_mem hk')] at h
        cases h
      obtain ⟨ev, hev⟩ : ∃ ev, evs[k] = ev := ⟨_, rfl⟩
      rw [hev] at c0 c1 c2 hsn hmem
      obtain ⟨at_, val, fl⟩ := ev
      dsimp only at c0 c1 c2
      have HSN := Lib.hid hsn
      have HMEM := Lib.hid hmem
      have hbx := Box.alloc_ (w := wr) (cs := #[.int .i64 at_, .int .u8 val, .int .i64 fl]) (e := 40)
      have hbE := HBR.out.alloc HBR.out.size (.cells #[.int .i64 at_, .int .u8 val, .int .i64 fl] 40)
      have HBE := Lib.hid hbE
      obtain ⟨qx, zx, lx⟩ := hbx
      clear hRk hev hsn hmem hbE
      by_cases a1 : at_ < 0
      · have d1 : decide (at_ < 0) = true := by simpa using a1
        have HF := Lib.hid (HMEM.out (by simp [inR]; omega))
        clear a1
        go_wp2
        exact bodyPost_ret (v := .tuple #[.slice none 0 0, .int .i64 3]) (by simp [results, Try.results13, go_sem]) rfl ⟨_, _, rfl, ext_trans HST.out.2.2.2.2.2.2 HBE.out, .inl ⟨HF.out, rfl, rfl⟩⟩
      · have d1 : decide (at_ < 0) = false := by simpa using a1
        by_cases a2 : 1152921504606846976 < at_
        · have d2 : decide (1152921504606846976 < at_) = true := by simpa using a2
          have HF := Lib.hid (HMEM.out (by simp [inR]; omega))
          clear a1 a2
          go_wp2
          exact bodyPost_ret (v := .tuple #[.slice none 0 0, .int .i64 3]) (by simp [results, Try.results13, go_sem]) rfl ⟨_, _, rfl, ext_trans HST.out.2.2.2.2.2.2 HBE.out, .inl ⟨HF.out, rfl, rfl⟩⟩
        · have d2 : decide (1152921504606846976 < at_) = false := by simpa using a2
          have HI := Lib.hid (show inR ⟨at_, val, fl⟩ = true by simp [inR]; omega)
          clear a1 a2
          go_wp2_with fail
          go_roundw
          case rel => exact ⟨k + 1, by omega, by go_num, by rw [HSN.out, HALL.out, HI.out]; rfl, HBE.out⟩
          case measure => simp [intOf]; omega
    · obtain rfl : k = n := by omega
      have hall := HALL.out
      rw [List.take_of_length_le (by rw [HEL.out]; exact Nat.le_refl _)] at hall
      have HA := Lib.hid hall
      have HS2 := Lib.hid (HST.out.below HBR.out)
      have HK := Lib.hid hn
      clear hall HST HR1 HB1 HBR HALL hk hlt HN
      go_wp2_with fail
      go_loopw [10, 12, 13, 14, 15, 41] (fun vo xb fb en ee i x => ∃ (j : Nat) (v : Value) (l : List Fr) (Ao : Option Addr) (co : Nat), vo = .slice Ao l.length co ∧ j ≤ k ∧ i = .int .i64 j ∧ ordE 0 (evs.take j) = true ∧ SpSt w x g v (.slice Ao l.length co) ch t15 t35 (runS ch t15 t35 .zero (evs.take j)).2 l ∧ l.map fz = (runS ch t15 t35 .zero (evs.take j)).1) (fun _ _ _ _ _ i _ => k - (intOf i).toNat)
      case atStart => exact ⟨0, _, [], none, 0, rfl, by omega, rfl, rfl, HS2.out, rfl⟩
      case round =>
        obtain ⟨j, v, l, Ao, co, rfl, hj, rfl, hord, hsp, hlm⟩ := hrel
        obtain ⟨S, hS⟩ : ∃ S, (runS ch t15 t35 .zero (evs.take j)).2 = S := ⟨_, rfl⟩
        obtain ⟨F, hF⟩ : ∃ F, (runS ch t15 t35 .zero (evs.take j)).1 = F := ⟨_, rfl⟩
        have hSl := runS_lt ch t15 t35 .zero (evs.take j)
        have hSx := runS_xs ch t15 t35 .zero (evs.take j) (by simp [Rs.zero])
        have hFl := runS_len ch t15 t35 .zero (evs.take j)
        have hln := lastE_nonneg 0 (evs.take j) (Int.le_refl _) (alle_take _ _ HA.out)
        rw [hS] at hSl hSx hsp
        rw [hF] at hFl hlm
        have hl0 : l.length ≤ 1000 := by
          have h1 : l.length = F.length := by rw [← hlm]; simp
          have h2 : (evs.take j).length ≤ j := by simp; omega
          have := HK.out
          omega
        have HORD := Lib.hid hord
        have HSP := Lib.hid hsp
        have HLM := Lib.hid hlm
        have HL0 := Lib.hid hl0
        clear hord hsp hlm hFl hl0
        obtain ⟨hS1, hS2⟩ := hSl
        have hS2 : S.id_ = 0 := hS2
        have hS1 : S.lt = lastE 0 (evs.take j) := hS1
        have HSS := Lib.hid hS
        have HFF := Lib.hid hF
        clear hS hF
        by_cases hlt : j < k
        · have hbx0 := HSP.out.2.2.2.2.2.2
          have hRk := HR0.out.below hbx0 HB0.out
          obtain ⟨b0, off, rfl, hbl, hk', c0, c1, c2⟩ := ev_at hRk j hlt
          have hin : inR evs[j] = true := (List.all_eq_true.1 HA.out) _ (List.getElem_mem hk')
          have htk := List.take_succ_eq_append_getElem hk'
          obtain ⟨ev, hev⟩ : ∃ ev, evs[j] = ev := ⟨_, rfl⟩
          rw [hev] at c0 c1 c2 hin htk
          obtain ⟨at_, val, fl⟩ := ev
          dsimp only at c0 c1 c2
          simp only [inR, decide_eq_true_eq] at hin
          obtain ⟨hin1, hin2⟩ := hin
          have hbx := Box.alloc_ (w := wr) (cs := #[.int .i64 at_, .int .u8 val, .int .i64 fl]) (e := 40)
          have HSX := Lib.hid (HSP.out.below ((Below.refl _ _).alloc (Nat.le_refl _) (.cells #[.int .i64 at_, .int .u8 val, .int .i64 fl] 40)))
          obtain ⟨qx, zx, lx⟩ := hbx
          clear hRk hev hbx0
          by_cases ho : at_ < S.lt
          · have hof : ordE 0 evs = false := by
              rw [Bool.eq_false_iff]
              intro ha
              have := ordE_take 0 evs (j + 1) ha
              rw [htk, ordE_snoc] at this
              simp at this
              omega
            have HOF := Lib.hid hof
            have HCB := Lib.hid (fun (W : World) (h : SpSt w W g v (.slice Ao l.length co) ch t15 t35 S l) => char_bad v ch t15 t35 S.fi S.la S.fl S.ac S.lt S.id_ at_ val fl 7 g W h.1.1 (.inr ⟨hin1, hin2, .inl ho, rfl⟩))
            clear hof ho hin1 hin2 htk hln hS1 hS2 hSx
            go_wp2_with fail
            refine (HCB.out _ HSX.out).mono ?_
            rintro e w3 ⟨rfl, hb3⟩
            unfold noFrame
            have HB3 := Lib.hid (ext_alloc (ext_trans HSX.out.2.2.2.2.2.2 hb3) (.cells #[.slice none 0 0, .int .i64 0, .int .i64 0, .int .i64 0] 46))
            clear hb3
            go_wp2
            exact bodyPost_ret (v := .tuple #[.slice none 0 0, .int .i64 7]) (by simp [results, Try.results13, go_sem]) rfl ⟨_, _, rfl, HB3.out, .inr (.inl ⟨HA.out, HOF.out, rfl, rfl⟩)⟩
          · have hot : ordE 0 (evs.take (j + 1)) = true := by
              rw [htk, ordE_snoc, HORD.out]
              simp
              omega
            have hrn := runS_snoc ch t15 t35 .zero (evs.take j) ⟨at_, val, fl⟩
            rw [← htk, HSS.out, HFF.out] at hrn
            have HOT := Lib.hid hot
            obtain ⟨hc1, hc2⟩ := HCH.out
            by_cases he : endS ch t35 S ⟨at_, val, fl⟩ = true
            · have he2 := he
              simp only [endS, Bool.and_eq_true, decide_eq_true_eq] at he2
              obtain ⟨hac, hse⟩ := he2
              have hst : charS ch t15 t35 S ⟨at_, val, fl⟩ = addS t15 (takeS S) (silS ch S ⟨at_, val, fl⟩) ⟨at_, val, fl⟩ := by rw [charS, if_pos he]
              rw [if_pos he, hst] at hrn
              have HRN := Lib.hid hrn
              have HCE := Lib.hid (fun (W : World) (h : SpSt w W g v (.slice Ao l.length co) ch t15 t35 S l) => char_end ch t15 t35 S.xs _ v S.fi S.la S.fl S.lt S.id_ at_ val fl _ g W (by have h1 := h.1; rw [hac] at h1; exact h1) rfl hc1 (by omega) (by rw [hS1]; exact hln) hin1 hin2 (by omega) (by rw [hS2]; exact hin1) rfl hse)
              clear hot hst he hac hse hrn hc1 hc2 ho hin1 hin2 htk hln hS1 hS2 hSx
              go_wp2_with fail
              refine (HCE.out _ HSX.out).mono ?_
              rintro e w3 ⟨A2, n2, c2, rfl, rfl, v', hR3, hv3, hch3⟩
              obtain ⟨hs3, hf3⟩ := HSX.out.end_ (S' := addS t15 (takeS S) (silS ch S ⟨at_, val, fl⟩) ⟨at_, val, fl⟩) hR3 hv3 hch3
              have hb4 := (Below.refl w3.heap.size w3).alloc (Nat.le_refl _) (.cells #[.slice A2 n2 c2, .int .i64 S.fi, .int .i64 S.la, .int .i64 S.fl] 46)
              have hs4 := hs3.below hb4
              have hf4 := hf3.below hb4
              have hb5 := (Below.refl _ (w3.alloc (.cells #[.slice A2 n2 c2, .int .i64 S.fi, .int .i64 S.la, .int .i64 S.fl] 46))).alloc (Nat.le_refl _) (.cells #[.slice A2 n2 c2, .int .i64 S.fi, .int .i64 S.la, .int .i64 S.fl] 46)
              have HS5 := Lib.hid (hs4.below hb5)
              have HF5 := Lib.hid (hf4.below hb5)
              have HBf := Lib.hid (Box.alloc_ (w := w3) (cs := #[.slice A2 n2 c2, .int .i64 S.fi, .int .i64 S.la, .int .i64 S.fl]) (e := 46))
              obtain ⟨qf, zf, lf⟩ := HBf.out
              clear hR3 hv3 hch3 hs3 hf3 hb4 hs4 hf4 hb5 qx zx lx
              go_wp2_with (at_builtin; refine wpList_appN (.tmp 56) (.tmp 58) 42 w.heap.size 46 _ 4 48 _ l.length (frCells l) (w3.heap.size + 2) (some ⟨w3.heap.size + 1, 0, none⟩) 1 1 _ Try.underlying42 frInfo rfl (by decide) rfl rfl rfl rfl HS5.out.2.1 (by have h := Rd.lit (w := w3.alloc (.cells #[.slice A2 n2 c2, .int .i64 S.fi, .int .i64 S.la, .int .i64 S.fl] 46)) (size := 4) (n := 1) (cs := #[.slice A2 n2 c2, .int .i64 S.fi, .int .i64 S.la, .int .i64 S.fl]) (e := 46) (fz := (0, 0)) (B := w3.heap.size + 2) rfl (by simp); simpa using h) (one_fr ⟨A2, n2, c2, S.xs, S.fi, S.la, S.fl⟩) (by have := HL0.out; omega) (by omega) (by have := HS5.out.2.2.2.2.2.2.size; exact this) ?_; intro vo' w6 hown6 hg6 hn6 hb6)
              have hs6 := HS5.out.app HF5.out hown6 hg6 hn6
              obtain ⟨Ao', co', hvo, _, _⟩ := own_form hown6
              subst hvo
              have HS6 := Lib.hid hs6
              clear hs6 hown6 hg6 hn6 hb6
              go_roundw
              case rel => exact ⟨j + 1, v', l ++ [⟨A2, n2, c2, S.xs, S.fi, S.la, S.fl⟩], Ao', co', by simp, by omega, by go_num, HOT.out, by rw [HRN.out, List.length_append]; exact HS6.out, by rw [HRN.out]; simp [HLM.out, fz, Rs.frame]⟩
              case measure => simp [intOf]; omega
            · have hno : S.ac = false ∨ silS ch S ⟨at_, val, fl⟩ < t35 := by
                simp only [endS, Bool.and_eq_true, decide_eq_true_eq] at he
                cases hac : S.ac
                · exact .inl rfl
                · exact .inr (by rw [hac] at he; simp at he; omega)
              have hst : charS ch t15 t35 S ⟨at_, val, fl⟩ = addS t15 S (silS ch S ⟨at_, val, fl⟩) ⟨at_, val, fl⟩ := by rw [charS, if_neg he]
              rw [if_neg he, List.append_nil, hst] at hrn
              have HRN := Lib.hid hrn
              have HCK := Lib.hid (fun (W : World) (h : SpSt w W g v (.slice Ao l.length co) ch t15 t35 S l) => char_keep ch t15 t35 S.xs _ _ _ v S.fi S.la S.fl S.ac S.lt S.id_ at_ val fl _ g W h.1 hSx rfl rfl rfl hc1 (by omega) (by rw [hS1]; exact hln) hin1 hin2 (by omega) (by rw [hS2]; exact hin1) rfl hno)
              clear hot hst hno he hrn hc1 hc2 ho hin1 hin2 htk hln hS1 hS2 hSx
              go_wp2_with fail
              refine (HCK.out _ HSX.out).mono ?_
              rintro e w3 ⟨rfl, v', hR3, hv3, hch3⟩
              unfold noFrame
              have HS3 := Lib.hid ((HSX.out.keep (S' := addS t15 S (silS ch S ⟨at_, val, fl⟩) ⟨at_, val, fl⟩) hR3 hv3 hch3).below ((Below.refl _ _).alloc (Nat.le_refl _) (.cells #[.slice none 0 0, .int .i64 0, .int .i64 0, .int .i64 0] 46)))
              clear hR3 hv3 hch3
              go_wp2_with fail
              go_roundw
              case rel => exact ⟨j + 1, v', l, Ao, co, rfl, by omega, by go_num, HOT.out, by rw [HRN.out]; exact HS3.out, by rw [HRN.out]; exact HLM.out⟩
              case measure => simp [intOf]; omega
        · obtain rfl : j = k := by omega
          have hta : evs.take j = evs := List.take_of_length_le (by rw [HEL.out]; exact Nat.le_refl _)
          rw [hta] at HORD HSS HFF
          have hfr : framesS ch t15 t35 evs = F ++ (if S.ac then [S.frame] else []) := by rw [framesS, HSS.out, HFF.out]
          have HFR := Lib.hid hfr
          obtain ⟨q, z, lz⟩ := HSP.out.1.1
          unfold rcvCells at q
          have fin : ∀ (w' : World) (v' : Value) (S' : Rs) (l' : List Fr) (A' : Option Addr) (c' : Nat), SpSt w w' g v' (.slice A' l'.length c') ch t15 t35 S' l' → l'.map fz = framesS ch t15 t35 evs → SplitOk w w' ch t15 t35 evs (.slice A' l'.length c') 0 := fun w' v' S' l' A' c' h1 h2 =>
            ⟨h1.2.2.2.2.2.2, .inr (.inr ⟨HA.out, HORD.out, rfl, l', A', c', rfl, Rd.of_own h1.2.1, fun f hf => (h1.2.2.2.2.1 f hf).move (Nat.le_refl _) (fun _ _ _ => rfl) (fun b _ h => h.elim), h2⟩)⟩
          have FIN := Lib.hid fin
          clear hta hfr fin hS1 hS2 hlt hj
          cases hac : S.ac
          · have HF2 := Lib.hid (show l.map fz = framesS ch t15 t35 evs by rw [HFR.out, hac, HLM.out]; simp)
            rw [hac] at q
            clear hac
            go_wp2
            exact bodyPost_ret (v := .tuple #[.slice Ao l.length co, .int .i64 0]) (by simp [results, Try.results13, go_sem]) rfl ⟨_, _, rfl, FIN.out _ _ _ _ _ _ HSP.out HF2.out⟩
          · obtain ⟨A2, c2, hv2, _, _⟩ := own_form HSP.out.1.2
            subst hv2
            rw [hac] at q
            have HTK := Lib.hid (take_any ch t15 t35 A2 S.xs.length c2 S.fi S.la S.fl S.ac S.lt S.id_ g wr HSP.out.1.1)
            have HF2 := Lib.hid (show ∀ f, fz f = S.frame → (l ++ [f]).map fz = framesS ch t15 t35 evs by intro f hf; rw [HFR.out, hac, List.map_append, HLM.out]; simp [hf])
            clear hac
            go_wp2_with fail
            refine HTK.out.mono ?_
            rintro e w3 ⟨rfl, hB3, hg3⟩
            obtain ⟨hs3, hf3⟩ := HSP.out.end_ (v' := .slice none 0 0) (S' := takeS S) ⟨hB3, rfl, .inl ⟨rfl, rfl⟩⟩ (.inl rfl) ((Chg.refl wr g none).grown hg3 (.inl rfl))
            have hb4 := (Below.refl w3.heap.size w3).alloc (Nat.le_refl _) (.cells #[.slice A2 S.xs.length c2, .int .i64 S.fi, .int .i64 S.la, .int .i64 S.fl] 46)
            have HS5 := Lib.hid (hs3.below hb4)
            have HF5 := Lib.hid (hf3.below hb4)
            clear hB3 hg3 hs3 hf3 hb4 q z lz
            go_wp2_with (at_builtin; refine wpList_appN (.tmp 65) (.tmp 68) 42 w.heap.size 46 _ 4 48 _ l.length (frCells l) (w3.heap.size + 1) (some ⟨w3.heap.size, 0, none⟩) 1 1 _ Try.underlying42 frInfo rfl (by decide) rfl rfl rfl rfl HS5.out.2.1 (Rd.lit rfl (Nat.lt_succ_self _)) (one_fr ⟨A2, S.xs.length, c2, S.xs, S.fi, S.la, S.fl⟩) (by have := HL0.out; omega) (by omega) (by have := HS5.out.2.2.2.2.2.2.size; exact this) ?_; intro vo' w6 hown6 hg6 hn6 hb6)
            have hs6 := HS5.out.app HF5.out hown6 hg6 hn6
            obtain ⟨Ao', co', hvo, _, _⟩ := own_form hown6
            subst hvo
            have HS6 := Lib.hid hs6
            clear hs6 hown6 hg6 hn6 hb6
            exact bodyPost_ret (v := .tuple #[.slice Ao' (l.length + 1) co', .int .i64 0]) (by simp [results, Try.results13, go_sem]) rfl ⟨_, _, rfl, by have h := FIN.out _ _ _ (l ++ [⟨A2, S.xs.length, c2, S.xs, S.fi, S.la, S.fl⟩]) Ao' co' (by rw [List.length_append]; exact HS6.out) (HF2.out _ rfl); rw [List.length_append] at h; exact h⟩
end Go.Proofs.Ytoliplochipoeaa

/- The receiver: the law's sanity check. -/
set_option linter.unusedVariables false
set_option linter.unusedSimpArgs false
namespace Go.Proofs.Ytoliplochipoeaa
open Go.RowKit

theorem SplitOk.get {w w' : World} {ch t15 t35 : Int} {evs : List Ev} {vo : Value} {E : Int} {F : List Fz} (h : SplitOk w w' ch t15 t35 evs vo E) (h1 : evs.all inR = true) (h2 : ordE 0 evs = true) (h3 : framesS ch t15 t35 evs = F) :
    E = 0 ∧ Below w.heap.size w w' ∧ ∃ (l : List Fr) (Ao : Option Addr) (co : Nat), vo = .slice Ao F.length co ∧ Rd w' w'.heap.size 4 Ao F.length (frCells l) ∧ (∀ f ∈ l, FrOk w' (fun _ => False) f) ∧ l.map fz = F := by
  rcases h with ⟨hb, ⟨k, _⟩ | ⟨_, k, _⟩ | ⟨_, _, rfl, l, Ao, co, rfl, hr, hf, hl⟩⟩
  · rw [h1] at k; cases k
  · rw [h2] at k; cases k
  · rw [h3] at hl
    have hn : l.length = F.length := by rw [← hl]; simp
    rw [hn] at hr
    exact ⟨rfl, hb, l, Ao, co, by rw [hn], hr, hf, hl⟩
deriving instance DecidableEq for Fz
abbrev evA : List Ev := [⟨287, 1, 0⟩, ⟨574, 2, 0⟩, ⟨2611, 3, 0⟩]
abbrev evB : List Ev := [⟨287, 1, 0⟩, ⟨574, 2, 0⟩, ⟨2000, 3, 0⟩]
theorem framesA : framesS 287 750 1750 evA = [⟨[1, 2], 287, 574, 0⟩, ⟨[3], 2611, 2611, 0⟩] := by decide +kernel
theorem framesB : framesS 287 750 1750 evB = [⟨[1, 2, 3], 287, 2000, 4⟩] := by decide +kernel
end Go.Proofs.Ytoliplochipoeaa

/- ReceiverWhole in plain words. -/
set_option linter.unusedVariables false
set_option linter.unusedSimpArgs false
namespace Go.Proofs.Ytoliplochipoeaa
open Go.RowKit

/-- The characters of a frame: values and gaps. -/
def evW (ch : Int) : Int → List (Int × Int) → List Ev
  | _, [] => []
  | at_, x :: t => ⟨at_ + ch + x.2, x.1, 0⟩ :: evW ch (at_ + ch + x.2) t
def lastW (ch : Int) : Int → List (Int × Int) → Int
  | at_, [] => at_
  | at_, x :: t => lastW ch (at_ + ch + x.2) t
theorem evW_snoc (ch at_ : Int) (l : List (Int × Int)) (x : Int × Int) : evW ch at_ (l ++ [x]) = evW ch at_ l ++ [⟨lastW ch at_ l + ch + x.2, x.1, 0⟩] := by
  induction l generalizing at_ with
  | nil => rfl
  | cons y t ih => simp only [List.cons_append, evW, lastW, ih]
theorem lastW_snoc (ch at_ : Int) (l : List (Int × Int)) (x : Int × Int) : lastW ch at_ (l ++ [x]) = lastW ch at_ l + ch + x.2 := by
  induction l generalizing at_ with
  | nil => rfl
  | cons y t ih => simp only [List.cons_append, lastW, ih]
theorem evW_len (ch at_ : Int) (l : List (Int × Int)) : (evW ch at_ l).length = l.length := by
  induction l generalizing at_ with
  | nil => rfl
  | cons y t ih => simp [evW, ih]
theorem lastW_bd (ch at_ : Int) (l : List (Int × Int)) (h0 : 0 ≤ ch) (h1 : ch ≤ 100000) (hg : ∀ x ∈ l, 0 ≤ x.2 ∧ x.2 ≤ 597) : at_ ≤ lastW ch at_ l ∧ lastW ch at_ l ≤ at_ + 100597 * l.length := by
  induction l generalizing at_ with
  | nil => simp [lastW]
  | cons y t ih =>
    have h := ih (at_ + ch + y.2) (fun x hx => hg x (List.mem_cons_of_mem _ hx))
    have hy := hg y List.mem_cons_self
    simp only [lastW, List.length_cons]
    omega
theorem lastE_evW (ch at_ : Int) (l : List (Int × Int)) : lastE at_ (evW ch at_ l) = lastW ch at_ l := by
  induction l generalizing at_ with
  | nil => rfl
  | cons y t ih => simp only [evW, lastE, lastW, ih]
theorem ord_whole (ch at_ : Int) (l : List (Int × Int)) (h0 : 0 ≤ ch) (hg : ∀ x ∈ l, 0 ≤ x.2 ∧ x.2 ≤ 597) : ordE at_ (evW ch at_ l) = true := by
  induction l generalizing at_ with
  | nil => rfl
  | cons y t ih =>
    have hy := hg y List.mem_cons_self
    simp only [evW, ordE, Bool.and_eq_true, decide_eq_true_eq]
    exact ⟨by omega, ih _ fun x hx => hg x (List.mem_cons_of_mem _ hx)⟩
theorem ordE_mono (p q : Int) (l : List Ev) (h : ordE p l = true) (hq : q ≤ p) : ordE q l = true := by
  cases l with
  | nil => rfl
  | cons e t => simp only [ordE, Bool.and_eq_true, decide_eq_true_eq] at h ⊢; exact ⟨by omega, h.2⟩
theorem in_whole (ch at_ : Int) (l : List (Int × Int)) (h0 : 0 ≤ ch) (h1 : ch ≤ 100000) (ha : 0 ≤ at_) (hg : ∀ x ∈ l, 0 ≤ x.2 ∧ x.2 ≤ 597) (hb : at_ + 100597 * l.length ≤ 1152921504606846976) : (evW ch at_ l).all inR = true := by
  induction l generalizing at_ with
  | nil => rfl
  | cons y t ih =>
    have hy := hg y List.mem_cons_self
    simp only [List.length_cons] at hb
    simp only [evW, List.all_cons, Bool.and_eq_true]
    refine ⟨?_, ih _ (by omega) (fun x hx => hg x (List.mem_cons_of_mem _ hx)) (by omega)⟩
    exact decide_eq_true ⟨by simp only; omega, by simp only; omega⟩
theorem addFl_w (ac : Bool) (sil t15 : Int) (n : Nat) (h : ¬ (ac = true ∧ t15 < sil)) (hn : n < 256) : addFl ac sil t15 n 0 0 = 0 := by
  unfold addFl
  rw [if_neg h, if_pos hn]
  decide
def stW (xs : List Int) (fi at_ : Int) : Rs := ⟨xs, fi, at_, 0, true, at_, 0⟩
theorem step_whole (ch t15 t35 at_ fi : Int) (xs : List Int) (x : Int × Int) (hx : 0 ≤ x.2 ∧ x.2 ≤ 597) (h15 : 597 ≤ t15) (h35 : 597 < t35) (hl : xs.length < 256) :
    endS ch t35 (stW xs fi at_) ⟨at_ + ch + x.2, x.1, 0⟩ = false ∧ charS ch t15 t35 (stW xs fi at_) ⟨at_ + ch + x.2, x.1, 0⟩ = stW (xs ++ [x.1]) fi (at_ + ch + x.2) := by
  have hs : silS ch (stW xs fi at_) ⟨at_ + ch + x.2, x.1, 0⟩ = x.2 := by
    simp only [silS, stW]
    omega
  have he : endS ch t35 (stW xs fi at_) ⟨at_ + ch + x.2, x.1, 0⟩ = false := by
    simp only [endS, hs, Bool.and_eq_false_iff]
    exact .inr (by simp; omega)
  refine ⟨he, ?_⟩
  rw [charS, he, hs]
  simp only [Bool.false_eq_true, if_false, addS, stW, if_pos hl, if_true]
  rw [addFl_w true x.2 t15 _ (by omega) hl]
theorem run_whole (ch t15 t35 at_ fi : Int) (xs : List Int) (l : List (Int × Int)) (hg : ∀ x ∈ l, 0 ≤ x.2 ∧ x.2 ≤ 597) (h15 : 597 ≤ t15) (h35 : 597 < t35) (hl : xs.length + l.length ≤ 256) :
    runS ch t15 t35 (stW xs fi at_) (evW ch at_ l) = ([], stW (xs ++ l.map (·.1)) fi (lastW ch at_ l)) := by
  induction l generalizing at_ xs with
  | nil => simp [evW, runS, lastW]
  | cons y t ih =>
    simp only [List.length_cons] at hl
    obtain ⟨a, b⟩ := step_whole ch t15 t35 at_ fi xs y (hg y List.mem_cons_self) h15 h35 (by omega)
    rw [evW, runS, a, b, ih _ _ (fun x hx => hg x (List.mem_cons_of_mem _ hx)) (by simp; omega)]
    simp [lastW]
theorem frames_whole (ch t15 t35 at_ : Int) (y : Int × Int) (l : List (Int × Int)) (hg : ∀ x ∈ y :: l, 0 ≤ x.2 ∧ x.2 ≤ 597) (h15 : 597 ≤ t15) (h35 : 597 < t35) (hl : (y :: l).length ≤ 256) :
    framesS ch t15 t35 (evW ch at_ (y :: l)) = [⟨(y :: l).map (·.1), at_ + ch + y.2, lastW ch at_ (y :: l), 0⟩] := by
  have h1 : charS ch t15 t35 .zero ⟨at_ + ch + y.2, y.1, 0⟩ = stW [y.1] (at_ + ch + y.2) (at_ + ch + y.2) := by
    rw [charS, show endS ch t35 .zero ⟨at_ + ch + y.2, y.1, 0⟩ = false from rfl]
    simp only [Bool.false_eq_true, if_false, addS, Rs.zero, stW]
    rw [addFl_w false _ t15 _ (by simp) (by simp)]
    rfl
  have h2 : runS ch t15 t35 .zero (evW ch at_ (y :: l)) = ([], stW ((y :: l).map (·.1)) (at_ + ch + y.2) (lastW ch at_ (y :: l))) := by
    rw [evW, runS, h1, run_whole ch t15 t35 _ _ _ l (fun x hx => hg x (List.mem_cons_of_mem _ hx)) h15 h35 (by simp only [List.length_cons, List.length_nil] at hl ⊢; omega)]
    rfl
  rw [framesS, h2]
  rfl
end Go.Proofs.Ytoliplochipoeaa


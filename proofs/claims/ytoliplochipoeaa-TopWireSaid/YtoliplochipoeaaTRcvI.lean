/- The receiver: Idle of an active receiver, ahead of the deadline and from it on. -/
import Derived.Test.YtoliplochipoeaaTRcvE
set_option linter.unusedVariables false
set_option linter.unusedSimpArgs false
namespace Go.Proofs.Ytoliplochipoeaa
open Go.RowKit

set_option maxRecDepth 100000 in
set_option maxHeartbeats 4000000 in
theorem idle_early (ch t15 t35 : Int) (bs : Value) (fi la fl lt id_ t : Int) (g : Nat) (w : World) (hB : Box w g (rcvCells ch t15 t35 bs fi la fl true lt id_))
    (h1 : 0 ≤ ch) (h2 : ch ≤ 100000) (h3 : 0 ≤ t35) (h4 : t35 ≤ 100000) (h5 : 0 ≤ lt) (h6 : lt ≤ t) (h7 : id_ ≤ t) (h8 : t ≤ 1152921504606846976) (h9 : t < lt + t35 + ch) :
    Calls Try.prog 64 #[iptr g, .int .i64 t] w fun e w' => e = .returned (.tuple #[noFrame, .bool false]) ∧ Box w' g (rcvCells ch t15 t35 bs fi la fl true lt t) ∧ w.grownBy w' (some g) := by
  have HD := Lib.hid (fun (W : World) (h : Box W g (rcvCells ch t15 t35 bs fi la fl true lt t)) => show Calls Try.prog 76 #[.pointer (some ⟨g, 0, none⟩)] W (fun e w' => e = .returned (.tuple #[.int .i64 (lt + t35 + ch), .bool true]) ∧ Below W.heap.size W w') from deadline_any ch t15 t35 bs fi la fl true lt t g W h h1 h2 h3 h4 h5 (by omega))
  have hgl := hB.2.2
  have hB1 := hB.alloc' (.cells #[.slice none 0 0, .int .i64 0, .int .i64 0, .int .i64 0] 46)
  have hBf := Box.alloc_ (w := w) (cs := #[.slice none 0 0, .int .i64 0, .int .i64 0, .int .i64 0]) (e := 46)
  have hgr := one_alloc (one_refl w g) (.cells #[.slice none 0 0, .int .i64 0, .int .i64 0, .int .i64 0] 46)
  obtain ⟨bx, hbx⟩ : ∃ b, w.heap.size = b := ⟨_, rfl⟩
  obtain ⟨W1, hW1⟩ : ∃ W, w.alloc (.cells #[.slice none 0 0, .int .i64 0, .int .i64 0, .int .i64 0] 46) = W := ⟨_, rfl⟩
  rw [hW1] at hB1 hBf hgr
  rw [hbx] at hBf
  have HWB := Lib.hid (show w.heap.size ≤ bx by omega)
  have HNE := Lib.hid (show bx ≠ g by omega)
  have HB1 := Lib.hid hB1
  have HBf := Lib.hid hBf
  have HGR := Lib.hid hgr
  have d1 : decide (t < 0) = false := by simp; omega
  have d2 : decide (1152921504606846976 < t) = false := by simp; omega
  have d3 : decide (t < lt) = false := by simp; omega
  have d4 : decide (t < id_) = false := by simp; omega
  have d5 : decide (t < lt + t35 + ch) = true := by simp; omega
  obtain ⟨q, z, l⟩ := HB1.out
  unfold rcvCells at q
  clear h1 h2 h3 h4 h5 h6 h7 h8 h9 hB hB1 hBf hgr
  go_enter Try.func64, Try.ntmps64
  go_upto_region 3 with fail
  clear hW1 hbx
  have HB2 := Lib.hid (HB1.out.set (k := 9) (v := .int .i64 t) (cs' := rcvCells ch t15 t35 bs fi la fl true lt t) (by simp [rcvCells]) rfl)
  have hg2 := one_set (one_refl W1 g) 9 (.int .i64 t)
  have HBf2 := Lib.hid (HBf.out.grown hg2 HNE.out)
  have HGR2 := Lib.hid (one_set HGR.out 9 (.int .i64 t))
  clear hg2
  go_upto_region 4 with fail
  obtain ⟨W2, hW2⟩ : ∃ W, W1.setCell ⟨g, 9, none⟩ (.int .i64 t) = W := ⟨_, rfl⟩
  rw [hW2] at HB2 HBf2 HGR2 ⊢
  clear hW2 q z l
  go_wp2_with fail
  refine (HD.out _ HB2.out).mono ?_
  rintro e w3 ⟨rfl, hb3⟩
  have HB3 := Lib.hid (HB2.out.below hb3)
  have HBf3 := Lib.hid (HBf2.out.below hb3)
  have HGR3 := Lib.hid (one_below HGR2.out hb3)
  clear hb3
  obtain ⟨q, z, l⟩ := HB3.out
  unfold rcvCells at q
  obtain ⟨qf, zf, lf⟩ := HBf3.out
  go_wp2
  have hg4 := one_set (one_set (one_set (one_set (one_refl w3 bx) 0 (.slice none 0 0)) 1 (.int .i64 0)) 2 (.int .i64 0)) 3 (.int .i64 0)
  obtain ⟨qz, zz, lz⟩ := box_putz HBf3.out
  refine bodyPost_ret (v := .tuple #[noFrame, .bool false]) (by simp [results, Try.results64, go_sem, qz, zz, lz, noFrame]) rfl ⟨rfl, HB3.out.grown hg4 (Ne.symm HNE.out), ?_⟩
  exact one_set_new (one_set_new (one_set_new (one_set_new HGR3.out HWB.out 0 _) HWB.out 1 _) HWB.out 2 _) HWB.out 3 _
set_option maxRecDepth 100000 in
set_option maxHeartbeats 4000000 in
theorem idle_take (ch t15 t35 : Int) (A : Option Addr) (n c : Nat) (fi la fl lt id_ t : Int) (g : Nat) (w : World) (hB : Box w g (rcvCells ch t15 t35 (.slice A n c) fi la fl true lt id_))
    (h1 : 0 ≤ ch) (h2 : ch ≤ 100000) (h3 : 0 ≤ t35) (h4 : t35 ≤ 100000) (h5 : 0 ≤ lt) (h6 : lt ≤ t) (h7 : id_ ≤ t) (h8 : t ≤ 1152921504606846976) (h9 : lt + t35 + ch ≤ t) :
    Calls Try.prog 64 #[iptr g, .int .i64 t] w fun e w' => e = .returned (.tuple #[.agg #[.slice A n c, .int .i64 fi, .int .i64 la, .int .i64 fl], .bool true]) ∧ Box w' g (rcvCells ch t15 t35 (.slice none 0 0) 0 0 0 false lt t) ∧ w.grownBy w' (some g) := by
  have HD := Lib.hid (fun (W : World) (h : Box W g (rcvCells ch t15 t35 (.slice A n c) fi la fl true lt t)) => show Calls Try.prog 76 #[.pointer (some ⟨g, 0, none⟩)] W (fun e w' => e = .returned (.tuple #[.int .i64 (lt + t35 + ch), .bool true]) ∧ Below W.heap.size W w') from deadline_any ch t15 t35 (.slice A n c) fi la fl true lt t g W h h1 h2 h3 h4 h5 (by omega))
  have HT := Lib.hid (fun (W : World) (h : Box W g (rcvCells ch t15 t35 (.slice A n c) fi la fl true lt t)) => take_any ch t15 t35 A n c fi la fl true lt t g W h)
  have hgl := hB.2.2
  have hB1 := hB.alloc' (.cells #[.slice none 0 0, .int .i64 0, .int .i64 0, .int .i64 0] 46)
  have hBf := Box.alloc_ (w := w) (cs := #[.slice none 0 0, .int .i64 0, .int .i64 0, .int .i64 0]) (e := 46)
  have hgr := one_alloc (one_refl w g) (.cells #[.slice none 0 0, .int .i64 0, .int .i64 0, .int .i64 0] 46)
  obtain ⟨bx, hbx⟩ : ∃ b, w.heap.size = b := ⟨_, rfl⟩
  obtain ⟨W1, hW1⟩ : ∃ W, w.alloc (.cells #[.slice none 0 0, .int .i64 0, .int .i64 0, .int .i64 0] 46) = W := ⟨_, rfl⟩
  rw [hW1] at hB1 hBf hgr
  rw [hbx] at hBf
  have HWB := Lib.hid (show w.heap.size ≤ bx by omega)
  have HNE := Lib.hid (show bx ≠ g by omega)
  have HB1 := Lib.hid hB1
  have HBf := Lib.hid hBf
  have HGR := Lib.hid hgr
  have d1 : decide (t < 0) = false := by simp; omega
  have d2 : decide (1152921504606846976 < t) = false := by simp; omega
  have d3 : decide (t < lt) = false := by simp; omega
  have d4 : decide (t < id_) = false := by simp; omega
  have d5 : decide (t < lt + t35 + ch) = false := by simp; omega
  obtain ⟨q, z, l⟩ := HB1.out
  unfold rcvCells at q
  clear h1 h2 h3 h4 h5 h6 h7 h8 h9 hB hB1 hBf hgr
  go_enter Try.func64, Try.ntmps64
  go_upto_region 3 with fail
  clear hW1 hbx
  have HB2 := Lib.hid (HB1.out.set (k := 9) (v := .int .i64 t) (cs' := rcvCells ch t15 t35 (.slice A n c) fi la fl true lt t) (by simp [rcvCells]) rfl)
  have hg2 := one_set (one_refl W1 g) 9 (.int .i64 t)
  have HBf2 := Lib.hid (HBf.out.grown hg2 HNE.out)
  have HGR2 := Lib.hid (one_set HGR.out 9 (.int .i64 t))
  clear hg2
  go_upto_region 4 with fail
  obtain ⟨W2, hW2⟩ : ∃ W, W1.setCell ⟨g, 9, none⟩ (.int .i64 t) = W := ⟨_, rfl⟩
  rw [hW2] at HB2 HBf2 HGR2 ⊢
  clear hW2 q z l
  go_wp2_with fail
  refine (HD.out _ HB2.out).mono ?_
  rintro e w3 ⟨rfl, hb3⟩
  have HB3 := Lib.hid (HB2.out.below hb3)
  have HBf3 := Lib.hid (HBf2.out.below hb3)
  have HGR3 := Lib.hid (one_below HGR2.out hb3)
  clear hb3
  go_wp2_with fail
  refine (HT.out _ HB3.out).mono ?_
  rintro e w4 ⟨rfl, hB4, hg4⟩
  have HB4 := Lib.hid hB4
  have HBf4 := Lib.hid (HBf3.out.grown hg4 HNE.out)
  have hg5 := one_set (one_set (one_set (one_set (one_refl w4 bx) 0 (.slice A n c)) 1 (.int .i64 fi)) 2 (.int .i64 la)) 3 (.int .i64 fl)
  have HG5 := Lib.hid hg5
  have hgt : w.grownBy w4 (some g) := ⟨hg4.os.trans HGR3.out.os, hg4.tape.trans HGR3.out.tape, hg4.output.trans HGR3.out.output, Nat.le_trans HGR3.out.size hg4.size, fun i hi hn => (hg4.block i (Nat.lt_of_lt_of_le hi HGR3.out.size) hn).trans (HGR3.out.block i hi hn)⟩
  have HGT := Lib.hid hgt
  have HBz := Lib.hid ((((HBf4.out.set (k := 0) (v := .slice A n c) (cs' := #[.slice A n c, .int .i64 0, .int .i64 0, .int .i64 0]) (by simp) rfl).set (k := 1) (v := .int .i64 fi) (cs' := #[.slice A n c, .int .i64 fi, .int .i64 0, .int .i64 0]) (by simp) rfl).set (k := 2) (v := .int .i64 la) (cs' := #[.slice A n c, .int .i64 fi, .int .i64 la, .int .i64 0]) (by simp) rfl).set (k := 3) (v := .int .i64 fl) (cs' := #[.slice A n c, .int .i64 fi, .int .i64 la, .int .i64 fl]) (by simp) rfl)
  clear hB4 hg4 hg5 hgt
  obtain ⟨qf, zf, lf⟩ := HBf4.out
  go_wp2
  obtain ⟨qz, zz, lz⟩ := HBz.out
  refine bodyPost_ret (v := .tuple #[.agg #[.slice A n c, .int .i64 fi, .int .i64 la, .int .i64 fl], .bool true]) (by simp [results, Try.results64, go_sem, qz, zz, lz]) rfl ⟨rfl, HB4.out.grown HG5.out (Ne.symm HNE.out), ?_⟩
  exact one_set_new (one_set_new (one_set_new (one_set_new HGT.out HWB.out 0 _) HWB.out 1 _) HWB.out 2 _) HWB.out 3 _
end Go.Proofs.Ytoliplochipoeaa

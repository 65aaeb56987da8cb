/- Layer 25: contract of Next. -/
import Derived.Test.YtdkkfahnkenplaaNpK
set_option linter.unusedVariables false
set_option linter.unusedSimpArgs false
namespace Go.Proofs.Ytdkkfahnkenplaa
open Go.RowKit
variable {F : Nat → Prop}

def reqV (tb a q : Int) : Value := .agg #[.int .i64 tb, .int .i64 a, .int .i64 q, .int .i64 0, .int .i64 0]
theorem next_nil (w : World) : Calls Try.prog 11 #[.pointer none] w fun e w' => e = .returned (.tuple #[reqV 0 0 0, .bool false]) ∧ Below w.heap.size w w' := by
  have HB := Lib.hid (Box.alloc_ (w := w) (cs := #[.int .i64 0, .int .i64 0, .int .i64 0, .int .i64 0, .int .i64 0]) (e := 31))
  have hb : Below w.heap.size w (w.alloc (.cells #[.int .i64 0, .int .i64 0, .int .i64 0, .int .i64 0, .int .i64 0] 31)) := (Below.refl _ _).alloc (Nat.le_refl _) _
  go_enter Try.func11, Try.ntmps11
  go_wp2
  obtain ⟨q, z, l⟩ := HB.out
  refine bodyPost_ret (v := .tuple #[reqV 0 0 0, .bool false]) (by simp [results, Try.results11, go_sem, q, z, l, reqV]) rfl ⟨rfl, hb⟩
theorem next_end (S : Mst) (g : Nat) (w : World) (hS : MapAt F w g S) (hk : Mok S) (hl : S.ks.length = S.N) : Calls Try.prog 11 #[mptr g] w fun e w' => e = .returned (.tuple #[reqV 0 0 0, .bool false]) ∧ Below w.heap.size w w' := by
  have HB := Lib.hid (Box.alloc_ (w := w) (cs := #[.int .i64 0, .int .i64 0, .int .i64 0, .int .i64 0, .int .i64 0]) (e := 31))
  have hb : Below w.heap.size w (w.alloc (.cells #[.int .i64 0, .int .i64 0, .int .i64 0, .int .i64 0, .int .i64 0] 31)) := (Below.refl _ _).alloc (Nat.le_refl _) _
  have HE := Lib.hid (ended_any S g _ (hS.below hb) hk true (by simpa using hl))
  go_enter Try.func11, Try.ntmps11
  go_wp2_with fail
  refine HE.out.mono ?_
  rintro e w1 ⟨rfl, hb1⟩
  obtain ⟨q, z, l⟩ := HB.out.below hb1
  have HB1 := Lib.hid (HB.out.below hb1)
  go_wp2_with fail
  have HB2 := ((((HB1.out.set (k := 0) (v := .int .i64 0) (cs' := #[.int .i64 0, .int .i64 0, .int .i64 0, .int .i64 0, .int .i64 0]) (by simp) rfl).set (k := 1) (v := .int .i64 0) (cs' := #[.int .i64 0, .int .i64 0, .int .i64 0, .int .i64 0, .int .i64 0]) (by simp) rfl).set (k := 2) (v := .int .i64 0) (cs' := #[.int .i64 0, .int .i64 0, .int .i64 0, .int .i64 0, .int .i64 0]) (by simp) rfl).set (k := 3) (v := .int .i64 0) (cs' := #[.int .i64 0, .int .i64 0, .int .i64 0, .int .i64 0, .int .i64 0]) (by simp) rfl).set (k := 4) (v := .int .i64 0) (cs' := #[.int .i64 0, .int .i64 0, .int .i64 0, .int .i64 0, .int .i64 0]) (by simp) rfl
  obtain ⟨q, z, l⟩ := HB2
  have hbw := hb.trans (hb1.mono hb.size)
  refine bodyPost_ret (v := .tuple #[reqV 0 0 0, .bool false]) (by simp [results, Try.results11, go_sem, q, z, l, reqV]) rfl ⟨rfl, ((((hbw.setCell (p := ⟨w.heap.size, 0, none⟩) (Nat.le_refl _) _).setCell (p := ⟨w.heap.size, 1, none⟩) (Nat.le_refl _) _).setCell (p := ⟨w.heap.size, 2, none⟩) (Nat.le_refl _) _).setCell (p := ⟨w.heap.size, 3, none⟩) (Nat.le_refl _) _).setCell (p := ⟨w.heap.size, 4, none⟩) (Nat.le_refl _) _⟩
set_option maxRecDepth 100000 in
set_option maxHeartbeats 2000000 in
theorem next_any (S : Mst) (g : Nat) (w : World) (hS : MapAt F w g S) (hk : Mok S) (hl : S.ks.length < S.N) (hf : 0 ≤ S.fs ∧ S.fs ≤ 65536) (l : Nat) (hll : S.ks.length = l) (z : Nat) (hz : sizeN S = z) :
    Calls Try.prog 11 #[mptr g] w fun e w' => e = .returned (.tuple #[reqV S.tb (S.fs + l) z, .bool true]) ∧ Below w.heap.size w w' := by
  have HBr := Lib.hid (Box.alloc_ (w := w) (cs := #[.int .i64 0, .int .i64 0, .int .i64 0, .int .i64 0, .int .i64 0]) (e := 31))
  have hb0 : Below w.heap.size w (w.alloc (.cells #[.int .i64 0, .int .i64 0, .int .i64 0, .int .i64 0, .int .i64 0] 31)) := (Below.refl _ _).alloc (Nat.le_refl _) _
  have HE := Lib.hid (ended_any S g _ (hS.below hb0) hk false (by simp; omega))
  have HZ := Lib.hid (fun (W : World) (h : Below w.heap.size w W) => size_any S g W (hS.below h) hk z hz)
  have hS0 := hS
  obtain ⟨A, n, c, hB, hR, hne⟩ := hS0
  obtain ⟨k1, k2, k3, k4, k5, k6⟩ := hk
  have hrl := hR.rlen
  have hln := ofL_length S.ks
  have HL := Lib.hid (fun (W : World) (h : Below w.heap.size w W) => len_any (ofL S.ks) A n c _ W (hR.below h (Nat.le_refl _)) (by omega) l (by rw [ofL_tot, hll]) (by omega))
  have hzb : z ≤ 2000 := by rw [← hz, sizeN]; (split; omega; split <;> omega)
  clear hS hR hne hrl hln hz
  obtain ⟨tb, fs, N, M, mode, lo, hi, ks, q⟩ := S
  dsimp only at *
  have hgl : g < w.heap.size := hB.2.2
  have HB := Lib.hid hB
  obtain ⟨hf1, hf2⟩ := hf
  clear hB
  go_enter Try.func11, Try.ntmps11
  go_wp2_with fail
  refine HE.out.mono ?_
  rintro e w1 ⟨rfl, hb1⟩
  have hbw := hb0.trans (hb1.mono hb0.size)
  have HB1 := Lib.hid (HB.out.below hbw)
  have HBr1 := Lib.hid (HBr.out.below hb1)
  clear hb0 hb1 HB HBr HE
  go_wp2_with fail
  have hS : (∀ i, w1.drew.cell? ⟨g, i, none⟩ = (#[.int .i64 tb, .int .i64 fs, .int .i64 N, .int .i64 M, .int .i64 mode, .int .i64 lo, .int .i64 hi, .slice A n c, .int .i64 q] : Array Value)[i]?) ∧ True ∧ True := ⟨HB1.out.1, trivial, trivial⟩
  have f1 : IntKind.i64.wrap (fs + (l : Int)) = fs + (l : Int) := IntWalk.i64_in _ ⟨by omega, by omega⟩
  refine rgs_start (fun w' => (∀ i, w'.cell? ⟨g, i, none⟩ = (#[.int .i64 tb, .int .i64 fs, .int .i64 N, .int .i64 M, .int .i64 mode, .int .i64 lo, .int .i64 hi, .slice A n c, .int .i64 q] : Array Value)[i]?) ∧ True ∧ True) (by kernel_rfl) ?_
  refine rgs_t (v := ?_) (some 11) 0 (by kernel_rfl) rfl rfl (by assumption) (.inl ⟨by rfl, fun w' hw => ?_⟩) ?_
  rotate_left
  · obtain ⟨q1, q2, q3⟩ := hw; go_simp <;> with_reducible rfl
  try simp only [Act.put, List.setIfInBounds_toArray, List.set_cons_zero, List.set_cons_succ]
  refine rgs_t (v := ?_) (some 12) 1 (by kernel_rfl) rfl rfl (by assumption) (.inl ⟨by rfl, fun w' hw => ?_⟩) ?_
  rotate_left
  · obtain ⟨q1, q2, q3⟩ := hw; go_simp <;> with_reducible rfl
  try simp only [Act.put, List.setIfInBounds_toArray, List.set_cons_zero, List.set_cons_succ]
  refine rgs_t (v := ?_) (some 13) 2 (by kernel_rfl) rfl rfl (by assumption) (.inl ⟨by rfl, fun w' hw => ?_⟩) ?_
  rotate_left
  · obtain ⟨q1, q2, q3⟩ := hw; go_simp <;> with_reducible rfl
  try simp only [Act.put, List.setIfInBounds_toArray, List.set_cons_zero, List.set_cons_succ]
  refine rgs_t (v := ?_) (some 14) 3 (by kernel_rfl) rfl rfl (by assumption) (.inl ⟨by rfl, fun w' hw => ?_⟩) ?_
  rotate_left
  · obtain ⟨q1, q2, q3⟩ := hw; go_simp <;> with_reducible rfl
  try simp only [Act.put, List.setIfInBounds_toArray, List.set_cons_zero, List.set_cons_succ]
  refine rgs_t (v := ?_) (some 15) 4 (by kernel_rfl) rfl rfl (by assumption) (.inl ⟨by rfl, fun w' hw => ?_⟩) ?_
  rotate_left
  · obtain ⟨q1, q2, q3⟩ := hw; go_simp <;> with_reducible rfl
  try simp only [Act.put, List.setIfInBounds_toArray, List.set_cons_zero, List.set_cons_succ]
  refine rgs_t (v := ?_) (some 16) 5 (by kernel_rfl) rfl rfl (by assumption) (.inl ⟨by rfl, fun w' hw => ?_⟩) ?_
  rotate_left
  · obtain ⟨q1, q2, q3⟩ := hw; go_simp <;> with_reducible rfl
  try simp only [Act.put, List.setIfInBounds_toArray, List.set_cons_zero, List.set_cons_succ]
  refine rgs_t (v := ?_) (some 17) 6 (by kernel_rfl) rfl rfl (by assumption) (.inl ⟨by rfl, fun w' hw => ?_⟩) ?_
  rotate_left
  · obtain ⟨q1, q2, q3⟩ := hw; go_simp <;> with_reducible rfl
  try simp only [Act.put, List.setIfInBounds_toArray, List.set_cons_zero, List.set_cons_succ]
  refine rgs_t (v := ?_) (some 18) 7 (by kernel_rfl) rfl rfl (by assumption) (.inl ⟨by rfl, fun w' hw => ?_⟩) ?_
  rotate_left
  · obtain ⟨q1, q2, q3⟩ := hw; go_simp <;> with_reducible rfl
  try simp only [Act.put, List.setIfInBounds_toArray, List.set_cons_zero, List.set_cons_succ]
  refine rgs_t (v := ?_) (some 19) 8 (by kernel_rfl) rfl rfl (by assumption) (.inl ⟨by rfl, fun w' hw => ?_⟩) ?_
  rotate_left
  · obtain ⟨q1, q2, q3⟩ := hw; go_simp <;> with_reducible rfl
  try simp only [Act.put, List.setIfInBounds_toArray, List.set_cons_zero, List.set_cons_succ]
  refine rgs_t (v := ?_) (some 20) 9 (by kernel_rfl) rfl rfl (by assumption) (.inl ⟨by rfl, fun w' hw => ?_⟩) ?_
  rotate_left
  · obtain ⟨q1, q2, q3⟩ := hw; go_simp <;> with_reducible rfl
  try simp only [Act.put, List.setIfInBounds_toArray, List.set_cons_zero, List.set_cons_succ]
  refine rgs_t (v := ?_) (some 21) 10 (by kernel_rfl) rfl rfl (by assumption) (.inl ⟨by rfl, fun w' hw => ?_⟩) ?_
  rotate_left
  · obtain ⟨q1, q2, q3⟩ := hw; go_simp <;> with_reducible rfl
  try simp only [Act.put, List.setIfInBounds_toArray, List.set_cons_zero, List.set_cons_succ]
  refine rgs_t (v := ?_) (some 22) 11 (by kernel_rfl) rfl rfl (by assumption) (.inl ⟨by rfl, fun w' hw => ?_⟩) ?_
  rotate_left
  · obtain ⟨q1, q2, q3⟩ := hw; go_simp <;> with_reducible rfl
  try simp only [Act.put, List.setIfInBounds_toArray, List.set_cons_zero, List.set_cons_succ]
  refine rgs_t (v := ?_) (some 25) 14 (by kernel_rfl) rfl rfl (by assumption) (.inl ⟨by rfl, fun w' hw => ?_⟩) ?_
  rotate_left
  · obtain ⟨q1, q2, q3⟩ := hw; go_simp <;> with_reducible rfl
  try simp only [Act.put, List.setIfInBounds_toArray, List.set_cons_zero, List.set_cons_succ]
  refine rgs_c 12 (by kernel_rfl) rfl (by rfl) (fun K hK => ?_)
  go_simp
  refine (HL.out _ (below_drew hbw)).mono ?_
  rintro e x1 ⟨rfl, hb1⟩
  have hbc1 : Below w1.heap.size w1 x1 := (below_drew (Below.refl w1.heap.size w1)).trans hb1
  have hS1 : (∀ i, x1.cell? ⟨g, i, none⟩ = (#[.int .i64 tb, .int .i64 fs, .int .i64 N, .int .i64 M, .int .i64 mode, .int .i64 lo, .int .i64 hi, .slice A n c, .int .i64 q] : Array Value)[i]?) ∧ True ∧ True := ⟨(HB1.out.below hbc1).1, trivial, trivial⟩
  refine hK _ _ hS1 ?_
  clear hK K
  try simp only [Act.put, List.setIfInBounds_toArray, List.set_cons_zero, List.set_cons_succ]
  refine rgs_t (v := ?_) (some 24) 13 (by kernel_rfl) rfl rfl (by assumption) (.inl ⟨by rfl, fun w' hw => ?_⟩) ?_
  rotate_left
  · obtain ⟨q1, q2, q3⟩ := hw; go_simp <;> with_reducible rfl
  try simp only [Act.put, List.setIfInBounds_toArray, List.set_cons_zero, List.set_cons_succ]
  refine rgs_c 15 (by kernel_rfl) rfl (by rfl) (fun K hK => ?_)
  go_simp
  refine (HZ.out _ (ext_trans hbw hbc1)).mono ?_
  rintro e x2 ⟨rfl, hb2⟩
  have hbc2 := ext_trans hbc1 hb2
  have hS2 : (∀ i, x2.cell? ⟨g, i, none⟩ = (#[.int .i64 tb, .int .i64 fs, .int .i64 N, .int .i64 M, .int .i64 mode, .int .i64 lo, .int .i64 hi, .slice A n c, .int .i64 q] : Array Value)[i]?) ∧ True ∧ True := ⟨(HB1.out.below hbc2).1, trivial, trivial⟩
  have HBr3 := HBr1.out.below hbc2
  obtain ⟨q3, z3, l3⟩ := HBr3
  refine hK _ _ hS2 ?_
  clear hK K
  try simp only [Act.put, List.setIfInBounds_toArray, List.set_cons_zero, List.set_cons_succ]
  refine rgs_t (v := ?_) (some 27) 16 (by kernel_rfl) rfl rfl (by assumption) (.inl ⟨by rfl, fun w' hw => ?_⟩) ?_
  rotate_left
  · obtain ⟨q1, q2, q3⟩ := hw; go_simp <;> with_reducible rfl
  try simp only [Act.put, List.setIfInBounds_toArray, List.set_cons_zero, List.set_cons_succ]
  refine rgs_c 17 (by kernel_rfl) rfl (by rfl) (fun K hK => ?_)
  go_simp
  have hg3 := one_set (one_set (one_set (one_set (one_set (one_refl x2 w.heap.size) 0 (.int .i64 tb)) 1 (.int .i64 (fs + (l : Int)))) 2 (.int .i64 (z : Int))) 3 (.int .i64 0)) 4 (.int .i64 0)
  have HBr3 := HBr1.out.below hbc2
  have hBf := (((((HBr3.set (k := 0) (v := .int .i64 tb) (cs' := #[.int .i64 tb, .int .i64 0, .int .i64 0, .int .i64 0, .int .i64 0]) (by simp) rfl).set (k := 1) (v := .int .i64 (fs + (l : Int))) (cs' := #[.int .i64 tb, .int .i64 (fs + (l : Int)), .int .i64 0, .int .i64 0, .int .i64 0]) (by simp) rfl).set (k := 2) (v := .int .i64 (z : Int)) (cs' := #[.int .i64 tb, .int .i64 (fs + (l : Int)), .int .i64 (z : Int), .int .i64 0, .int .i64 0]) (by simp) rfl).set (k := 3) (v := .int .i64 0) (cs' := #[.int .i64 tb, .int .i64 (fs + (l : Int)), .int .i64 (z : Int), .int .i64 0, .int .i64 0]) (by simp) rfl).set (k := 4) (v := .int .i64 0) (cs' := #[.int .i64 tb, .int .i64 (fs + (l : Int)), .int .i64 (z : Int), .int .i64 0, .int .i64 0]) (by simp) rfl)
  have hbw3 := ext_trans hbw hbc2
  have hbf := (((((hbw3.setCell (p := ⟨w.heap.size, 0, none⟩) (Nat.le_refl _) (.int .i64 tb)).setCell (p := ⟨w.heap.size, 1, none⟩) (Nat.le_refl _) (.int .i64 (fs + (l : Int)))).setCell (p := ⟨w.heap.size, 2, none⟩) (Nat.le_refl _) (.int .i64 (z : Int))).setCell (p := ⟨w.heap.size, 3, none⟩) (Nat.le_refl _) (.int .i64 0)).setCell (p := ⟨w.heap.size, 4, none⟩) (Nat.le_refl _) (.int .i64 0))
  have hS3 : (∀ i, (((((x2.setCell ⟨w.heap.size, 0, none⟩ (.int .i64 tb)).setCell ⟨w.heap.size, 1, none⟩ (.int .i64 (fs + (l : Int)))).setCell ⟨w.heap.size, 2, none⟩ (.int .i64 (z : Int))).setCell ⟨w.heap.size, 3, none⟩ (.int .i64 0)).setCell ⟨w.heap.size, 4, none⟩ (.int .i64 0)).cell? ⟨g, i, none⟩ = (#[.int .i64 tb, .int .i64 fs, .int .i64 N, .int .i64 M, .int .i64 mode, .int .i64 lo, .int .i64 hi, .slice A n c, .int .i64 q] : Array Value)[i]?) ∧ True ∧ True := ⟨((HB1.out.below hbc2).grown hg3 (by omega)).1, trivial, trivial⟩
  refine hK _ _ hS3 ?_
  clear hK K
  try simp only [Act.put, List.setIfInBounds_toArray, List.set_cons_zero, List.set_cons_succ]
  refine rgs_t (v := ?_) (some 3) 18 (by kernel_rfl) rfl rfl (by assumption) (.inl ⟨by rfl, fun w' hw => ?_⟩) ?_
  rotate_left
  · obtain ⟨q1, q2, q3⟩ := hw; go_simp <;> with_reducible rfl
  try simp only [Act.put, List.setIfInBounds_toArray, List.set_cons_zero, List.set_cons_succ]
  refine rgs_d (by kernel_rfl) ?_
  go_wp2
  obtain ⟨qf, zf, lf⟩ := hBf
  refine bodyPost_ret (v := .tuple #[reqV tb (fs + l) z, .bool true]) (by simp [results, Try.results11, go_sem, qf, zf, lf, reqV]) rfl ⟨rfl, hbf⟩
end Go.Proofs.Ytdkkfahnkenplaa

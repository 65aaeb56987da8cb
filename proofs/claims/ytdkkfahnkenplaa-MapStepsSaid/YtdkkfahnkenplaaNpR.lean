/- Layer 25: the reference's map: its state in memory, Next. -/
import Derived.Test.YtdkkfahnkenplaaNpX
import Derived.Test.YtdkkfahnkenplaaChg
import Derived.Test.YtdkkfahnkenplaaRegX
import Derived.Test.YtdkkfahnkenplaaRegG
import Derived.Deep.DeepCutAuto
set_option linter.unusedVariables false
set_option linter.unusedSimpArgs false
namespace Go.Proofs.Ytdkkfahnkenplaa
open Go.RowKit

abbrev rints (l : List Int) : List Value := l.map (Value.int .i64)
theorem rintInfo : (Try.prog.info? 3).map (fun i => (i.zero, i.size, i.bytes)) = some (some (.int .i64 0), 1, 8) := by kernel_rfl
theorem rone1 (a : Int) : ∀ u ∈ [Value.int .i64 a], u.oneCell' = true := by simp [Value.oneCell']
/-- The reference's map in block h is in state S, its kinds in block 'row'. -/
def RfAt (w : World) (h : Nat) (row : Option Nat) (S : Mst) : Prop := ∃ v : Value, v.ownBlock = row ∧ w.ownsRow (h + 1) 3 1 v S.ks.length (rints S.ks) ∧ Box w h #[.int .i64 S.tb, .int .i64 S.fs, .int .i64 S.N, .int .i64 S.M, v, .int .i64 S.mode, .int .i64 S.lo, .int .i64 S.hi, .int .i64 S.q]
theorem RfAt.below {w w' : World} {h : Nat} {row : Option Nat} {S : Mst} (k : RfAt w h row S) (hb : Below w.heap.size w w') : RfAt w' h row S := by
  obtain ⟨v, h1, h2, h3⟩ := k
  exact ⟨v, h1, own_below h2 hb (Nat.le_refl _), h3.below hb⟩
theorem RfAt.box_lt {w : World} {h : Nat} {row : Option Nat} {S : Mst} (k : RfAt w h row S) : h < w.heap.size := by
  obtain ⟨v, h1, h2, h3⟩ := k
  exact h3.2.2
theorem RfAt.row_lt {w : World} {h : Nat} {row : Option Nat} {S : Mst} (k : RfAt w h row S) (b : Nat) (hb : row = some b) : h < b ∧ b < w.heap.size := by
  obtain ⟨v, h1, h2, h3⟩ := k
  have := h2.lt b (by rw [h1]; exact hb)
  omega
/-- Only the block g ahead of h has changed. -/
theorem RfAt.off {w w' : World} {g h : Nat} {row : Option Nat} {S : Mst} (k : RfAt w h row S) (hg : w.grownBy w' (some g)) (hlt : g < h) : RfAt w' h row S := by
  obtain ⟨v, h1, h2, h3⟩ := k
  exact ⟨v, h1, own_off h2 hg (fun b e e2 => by injection e2 with e2; have := (h2.lt b e).1; omega), h3.grown hg (by omega)⟩

set_option maxHeartbeats 1000000 in
theorem rnext_end (S : Mst) (h : Nat) (row : Option Nat) (w : World) (hS : RfAt w h row S) (hk : Mok S) (hl : S.ks.length = S.N) :
    Calls Try.prog 12 #[mptr h] w fun e w' => e = .returned (.tuple #[reqV 0 0 0, .bool false]) ∧ Below w.heap.size w w' := by
  obtain ⟨v, hrow, hO, hB⟩ := hS
  obtain ⟨A, c, hv, _, hR⟩ := own_form hO
  subst hv
  rw [hl] at hB
  obtain ⟨tb, fs, N, M, mode, lo, hi, ks, q⟩ := S
  obtain ⟨k1, k2, k3, k4, k5, k6⟩ := hk
  dsimp only at k1 k2 k3 k4 k5 k6 hB
  have hb0 : Below w.heap.size w (w.alloc (.cells #[.int .i64 0, .int .i64 0, .int .i64 0, .int .i64 0, .int .i64 0] 31)) := (Below.refl _ _).alloc (Nat.le_refl _) _
  have hgl := hB.2.2
  have HB := Lib.hid (hB.alloc' (.cells #[.int .i64 0, .int .i64 0, .int .i64 0, .int .i64 0, .int .i64 0] 31))
  have HBr := Lib.hid (Box.alloc_ (w := w) (cs := #[.int .i64 0, .int .i64 0, .int .i64 0, .int .i64 0, .int .i64 0]) (e := 31))
  clear hB hO hR hrow hl k1
  go_enter Try.func12, Try.ntmps12
  go_upto_region 1 with fail
  obtain ⟨W0, hW0⟩ : ∃ W0, w.alloc (.cells #[.int .i64 0, .int .i64 0, .int .i64 0, .int .i64 0, .int .i64 0] 31) = W0 := ⟨_, rfl⟩
  rw [hW0] at HB HBr hb0 ⊢
  clear hW0
  obtain ⟨y, z, l⟩ := HB.out
  have e1 : IntKind.i64.wrap ((N : Int) - (N : Int)) = 0 := by rw [IntWalk.i64_in _ ⟨by omega, by omega⟩]; omega
  go_quiet (fail)
  obtain ⟨yr, zr, lr⟩ := HBr.out
  go_wp2
  have hBf := HBr.out
  obtain ⟨qf, zf, lf⟩ := hBf
  refine bodyPost_ret (v := .tuple #[reqV 0 0 0, .bool false]) (by simp [results, Try.results12, go_sem, qf, zf, lf, reqV]) rfl ⟨rfl, ?_⟩
  exact (((((below_drewN hb0 _).setCell (p := ⟨w.heap.size, 0, none⟩) (Nat.le_refl _) _).setCell (p := ⟨w.heap.size, 1, none⟩) (Nat.le_refl _) _).setCell (p := ⟨w.heap.size, 2, none⟩) (Nat.le_refl _) _).setCell (p := ⟨w.heap.size, 3, none⟩) (Nat.le_refl _) _).setCell (p := ⟨w.heap.size, 4, none⟩) (Nat.le_refl _) _

set_option maxHeartbeats 8000000 in
theorem rnext_any (S : Mst) (h : Nat) (row : Option Nat) (w : World) (hS : RfAt w h row S) (hk : Mok S) (hl : S.ks.length < S.N) (hf : 0 ≤ S.fs ∧ S.fs ≤ 65536) (l : Nat) (hll : S.ks.length = l) (z : Nat) (hz : sizeN S = z) :
    Calls Try.prog 12 #[mptr h] w fun e w' => e = .returned (.tuple #[reqV S.tb (S.fs + l) z, .bool true]) ∧ Below w.heap.size w w' := by
  obtain ⟨v, hrow, hO, hB⟩ := hS
  obtain ⟨A, c, hv, _, hR⟩ := own_form hO
  subst hv
  rw [hll] at hB hl
  obtain ⟨tb, fs, N, M, mode, lo, hi, ks, q⟩ := S
  obtain ⟨k1, k2, k3, k4, k5, k6⟩ := hk
  dsimp only at k1 k2 k3 k4 k5 k6 hB hf hl hll hz
  have hb0 : Below w.heap.size w (w.alloc (.cells #[.int .i64 0, .int .i64 0, .int .i64 0, .int .i64 0, .int .i64 0] 31)) := (Below.refl _ _).alloc (Nat.le_refl _) _
  have hgl := hB.2.2
  have hsz : w.heap.size < (w.alloc (.cells #[.int .i64 0, .int .i64 0, .int .i64 0, .int .i64 0, .int .i64 0] 31)).heap.size := by simp
  have HB := Lib.hid (hB.alloc' (.cells #[.int .i64 0, .int .i64 0, .int .i64 0, .int .i64 0, .int .i64 0] 31))
  have HBr := Lib.hid (Box.alloc_ (w := w) (cs := #[.int .i64 0, .int .i64 0, .int .i64 0, .int .i64 0, .int .i64 0]) (e := 31))
  simp only [sizeN, hll] at hz
  have HZ := Lib.hid hz
  have hzb : z ≤ 2000 := by rw [← hz]; (split; omega; split <;> omega)
  obtain ⟨hf1, hf2⟩ := hf
  clear hB hO hR hrow hll k1 hz
  go_enter Try.func12, Try.ntmps12
  go_upto_region 1 with fail
  obtain ⟨W0, hW0⟩ : ∃ W0, w.alloc (.cells #[.int .i64 0, .int .i64 0, .int .i64 0, .int .i64 0, .int .i64 0] 31) = W0 := ⟨_, rfl⟩
  rw [hW0] at HB HBr hb0 hsz ⊢
  clear hW0
  obtain ⟨y, zz, lz⟩ := HB.out
  have e1 : IntKind.i64.wrap ((N : Int) - (l : Int)) = ((N - l : Nat) : Int) := by rw [IntWalk.i64_in _ ⟨by omega, by omega⟩]; omega
  have d0 : (((N - l : Nat) : Int) == 0) = false := by simp; omega
  go_quiet (fail)
  obtain ⟨W1, hW1⟩ : ∃ W1, W1 = W0.drewN nq := ⟨_, rfl⟩
  rw [← hW1]
  have hb01 : Below W0.heap.size W0 W1 := by rw [hW1]; exact below_drewN (Below.refl _ _) _
  have HB1 := Lib.hid (HB.out.below hb01)
  clear hW1 y zz lz
  obtain ⟨y, zz, lz⟩ := HB1.out
  have hz := HZ.out
  by_cases m1 : mode = 1
  · rw [if_pos m1] at hz
    have d1 : ((mode : Int) == 1) = true := by simp; omega
    by_cases hmn : N - l < M
    · obtain rfl : z = N - l := by omega
      have d3 : decide (((N - l : Nat) : Int) < (M : Int)) = true := by simp; omega
      have d4 : ((N - l : Nat) : Int) < (M : Int) := by omega
      clear hz
      go_upto_region 10 with fail
      obtain ⟨W2, hW2⟩ : ∃ W2, W2 = W1 := ⟨_, rfl⟩
      rw [← hW2]
      have hbc : Below W0.heap.size W0 W2 := by rw [hW2]; exact hb01
      clear hW2
      have HB2 := Lib.hid ((HB.out.below hbc).drew)
      have HBr2 := Lib.hid ((HBr.out.below hbc).drew)
      have hbw2 := below_drew (ext_trans hb0 hbc)
      have hgl2 : h < w.heap.size := hgl
      have f1 : IntKind.i64.wrap (fs + (l : Int)) = fs + (l : Int) := IntWalk.i64_in _ ⟨by omega, by omega⟩
      clear y zz lz hbc
      have HB3 := Lib.hid HB2.out
      have HBr3 := Lib.hid HBr2.out
      obtain ⟨y0, hy0⟩ : ∃ y, W2.drew = y := ⟨_, rfl⟩
      rw [hy0] at HB3 HBr3 hbw2
      obtain ⟨yy, zy, ly⟩ := HB3.out
      have hnh : ¬ (h = w.heap.size) := by omega
      refine rgx_start_x (X := fun b => b = w.heap.size) (by kernel_rfl) ?_
      rw [hy0]
      refine rgx_t (v := ?_) (some 43) 0 (by kernel_rfl) rfl rfl (.inl ⟨by rfl, fun w' q => ?_⟩) ?_
      rotate_left
      · go_simp <;> with_reducible rfl
      try simp only [Act.put, List.setIfInBounds_toArray, List.set_cons_zero, List.set_cons_succ]
      refine rgx_t (v := ?_) (some 44) 1 (by kernel_rfl) rfl rfl (.inl ⟨by rfl, fun w' q => ?_⟩) ?_
      rotate_left
      · go_simp <;> with_reducible rfl
      try simp only [Act.put, List.setIfInBounds_toArray, List.set_cons_zero, List.set_cons_succ]
      refine rgx_t (v := ?_) (some 45) 2 (by kernel_rfl) rfl rfl (.inl ⟨by rfl, fun w' q => ?_⟩) ?_
      rotate_left
      · go_simp <;> with_reducible rfl
      try simp only [Act.put, List.setIfInBounds_toArray, List.set_cons_zero, List.set_cons_succ]
      refine rgx_t (v := ?_) (some 46) 3 (by kernel_rfl) rfl rfl (.inl ⟨by rfl, fun w' q => ?_⟩) ?_
      rotate_left
      · go_simp <;> with_reducible rfl
      try simp only [Act.put, List.setIfInBounds_toArray, List.set_cons_zero, List.set_cons_succ]
      refine rgx_t (v := ?_) (some 47) 4 (by kernel_rfl) rfl rfl (.inl ⟨by rfl, fun w' q => ?_⟩) ?_
      rotate_left
      · go_simp <;> with_reducible rfl
      try simp only [Act.put, List.setIfInBounds_toArray, List.set_cons_zero, List.set_cons_succ]
      refine rgx_t (v := ?_) (some 48) 5 (by kernel_rfl) rfl rfl (.inl ⟨by rfl, fun w' q => ?_⟩) ?_
      rotate_left
      · go_simp <;> with_reducible rfl
      try simp only [Act.put, List.setIfInBounds_toArray, List.set_cons_zero, List.set_cons_succ]
      refine rgx_t (v := ?_) (some 49) 6 (by kernel_rfl) rfl rfl (.inl ⟨by rfl, fun w' q => ?_⟩) ?_
      rotate_left
      · go_simp <;> with_reducible rfl
      try simp only [Act.put, List.setIfInBounds_toArray, List.set_cons_zero, List.set_cons_succ]
      refine rgx_t (v := ?_) (some 50) 7 (by kernel_rfl) rfl rfl (.inl ⟨by rfl, fun w' q => ?_⟩) ?_
      rotate_left
      · go_simp <;> with_reducible rfl
      try simp only [Act.put, List.setIfInBounds_toArray, List.set_cons_zero, List.set_cons_succ]
      refine rgx_t (v := ?_) (some 51) 8 (by kernel_rfl) rfl rfl (.inl ⟨by rfl, fun w' q => ?_⟩) ?_
      rotate_left
      · go_simp <;> with_reducible rfl
      try simp only [Act.put, List.setIfInBounds_toArray, List.set_cons_zero, List.set_cons_succ]
      refine rgx_t (v := ?_) (some 52) 9 (by kernel_rfl) rfl rfl (.inl ⟨by rfl, fun w' q => ?_⟩) ?_
      rotate_left
      · go_simp <;> with_reducible rfl
      try simp only [Act.put, List.setIfInBounds_toArray, List.set_cons_zero, List.set_cons_succ]
      refine rgx_t (v := ?_) (some 53) 10 (by kernel_rfl) rfl rfl (.inl ⟨by rfl, fun w' q => ?_⟩) ?_
      rotate_left
      · go_simp <;> with_reducible rfl
      try simp only [Act.put, List.setIfInBounds_toArray, List.set_cons_zero, List.set_cons_succ]
      refine rgx_t (v := ?_) (some 54) 11 (by kernel_rfl) rfl rfl (.inl ⟨by rfl, fun w' q => ?_⟩) ?_
      rotate_left
      · go_simp <;> with_reducible rfl
      try simp only [Act.put, List.setIfInBounds_toArray, List.set_cons_zero, List.set_cons_succ]
      refine rgx_t (v := ?_) (some 55) 12 (by kernel_rfl) rfl rfl (.inl ⟨by rfl, fun w' q => ?_⟩) ?_
      rotate_left
      · go_simp <;> with_reducible rfl
      try simp only [Act.put, List.setIfInBounds_toArray, List.set_cons_zero, List.set_cons_succ]
      refine rgx_t (v := ?_) (some 56) 13 (by kernel_rfl) rfl rfl (.inl ⟨by rfl, fun w' q => ?_⟩) ?_
      rotate_left
      · go_simp <;> with_reducible rfl
      try simp only [Act.put, List.setIfInBounds_toArray, List.set_cons_zero, List.set_cons_succ]
      refine rgx_t (v := ?_) (some 57) 14 (by kernel_rfl) rfl rfl (.inl ⟨by rfl, fun w' q => ?_⟩) ?_
      rotate_left
      · go_simp <;> with_reducible rfl
      try simp only [Act.put, List.setIfInBounds_toArray, List.set_cons_zero, List.set_cons_succ]
      refine rgx_t (v := ?_) (some 58) 15 (by kernel_rfl) rfl rfl (.inl ⟨by rfl, fun w' q => ?_⟩) ?_
      rotate_left
      · go_simp <;> with_reducible rfl
      try simp only [Act.put, List.setIfInBounds_toArray, List.set_cons_zero, List.set_cons_succ]
      refine rgx_1 16 (by kernel_rfl) ?_
      refine ⟨_, rfl, by rfl, fun K hK => ?_⟩
      obtain ⟨q4, z4, l4⟩ := HBr3.out
      go_simp
      have hBf := (((((HBr3.out.set (k := 0) (v := .int .i64 tb) (cs' := #[.int .i64 tb, .int .i64 0, .int .i64 0, .int .i64 0, .int .i64 0]) (by simp) rfl).set (k := 1) (v := .int .i64 (fs + (l : Int))) (cs' := #[.int .i64 tb, .int .i64 (fs + (l : Int)), .int .i64 0, .int .i64 0, .int .i64 0]) (by simp) rfl).set (k := 2) (v := .int .i64 ((N - l : Nat) : Int)) (cs' := #[.int .i64 tb, .int .i64 (fs + (l : Int)), .int .i64 ((N - l : Nat) : Int), .int .i64 0, .int .i64 0]) (by simp) rfl).set (k := 3) (v := .int .i64 0) (cs' := #[.int .i64 tb, .int .i64 (fs + (l : Int)), .int .i64 ((N - l : Nat) : Int), .int .i64 0, .int .i64 0]) (by simp) rfl).set (k := 4) (v := .int .i64 0) (cs' := #[.int .i64 tb, .int .i64 (fs + (l : Int)), .int .i64 ((N - l : Nat) : Int), .int .i64 0, .int .i64 0]) (by simp) rfl)
      have hbf := (((((hbw2.setCell (p := ⟨w.heap.size, 0, none⟩) (Nat.le_refl _) (.int .i64 tb)).setCell (p := ⟨w.heap.size, 1, none⟩) (Nat.le_refl _) (.int .i64 (fs + (l : Int)))).setCell (p := ⟨w.heap.size, 2, none⟩) (Nat.le_refl _) (.int .i64 ((N - l : Nat) : Int))).setCell (p := ⟨w.heap.size, 3, none⟩) (Nat.le_refl _) (.int .i64 0)).setCell (p := ⟨w.heap.size, 4, none⟩) (Nat.le_refl _) (.int .i64 0))
      have hm : Mem (fun b => b = w.heap.size) y0 _ := (((((Mem.refl (fun b => b = w.heap.size) y0).of_set (g := w.heap.size) (k := 0) (v := .int .i64 tb) rfl).of_set (g := w.heap.size) (k := 1) (v := .int .i64 (fs + (l : Int))) rfl).of_set (g := w.heap.size) (k := 2) (v := .int .i64 ((N - l : Nat) : Int)) rfl).of_set (g := w.heap.size) (k := 3) (v := .int .i64 0) rfl).of_set (g := w.heap.size) (k := 4) (v := .int .i64 0) rfl
      refine hK (fun b => b = w.heap.size) _ _ (fun b h => .inl h) hm ?_
      clear q4 z4 l4 hm
      clear hK K
      try simp only [Act.put, List.setIfInBounds_toArray, List.set_cons_zero, List.set_cons_succ]
      refine rgx_t (v := ?_) (some 3) 17 (by kernel_rfl) rfl rfl (.inl ⟨by rfl, fun w' q => ?_⟩) ?_
      rotate_left
      · go_simp <;> with_reducible rfl
      try simp only [Act.put, List.setIfInBounds_toArray, List.set_cons_zero, List.set_cons_succ]
      refine rgx_d (by kernel_rfl) ?_
      go_wp2
      obtain ⟨qf, zf, lf⟩ := hBf
      refine bodyPost_ret (v := .tuple #[reqV tb (fs + l) ((N - l : Nat) : Int), .bool true]) (by simp [results, Try.results12, go_sem, qf, zf, lf, reqV]) rfl ⟨rfl, hbf⟩
    · obtain rfl : z = M := by omega
      have d3 : decide (((N - l : Nat) : Int) < (z : Int)) = false := by simp; omega
      have d4 : ¬ (((N - l : Nat) : Int) < (z : Int)) := by omega
      clear hz
      go_upto_region 10 with fail
      obtain ⟨W2, hW2⟩ : ∃ W2, W2 = W1 := ⟨_, rfl⟩
      rw [← hW2]
      have hbc : Below W0.heap.size W0 W2 := by rw [hW2]; exact hb01
      clear hW2
      have HB2 := Lib.hid ((HB.out.below hbc).drew)
      have HBr2 := Lib.hid ((HBr.out.below hbc).drew)
      have hbw2 := below_drew (ext_trans hb0 hbc)
      have hgl2 : h < w.heap.size := hgl
      have f1 : IntKind.i64.wrap (fs + (l : Int)) = fs + (l : Int) := IntWalk.i64_in _ ⟨by omega, by omega⟩
      clear y zz lz hbc
      have HB3 := Lib.hid HB2.out
      have HBr3 := Lib.hid HBr2.out
      obtain ⟨y0, hy0⟩ : ∃ y, W2.drew = y := ⟨_, rfl⟩
      rw [hy0] at HB3 HBr3 hbw2
      obtain ⟨yy, zy, ly⟩ := HB3.out
      have hnh : ¬ (h = w.heap.size) := by omega
      refine rgx_start_x (X := fun b => b = w.heap.size) (by kernel_rfl) ?_
      rw [hy0]
      refine rgx_t (v := ?_) (some 43) 0 (by kernel_rfl) rfl rfl (.inl ⟨by rfl, fun w' q => ?_⟩) ?_
      rotate_left
      · go_simp <;> with_reducible rfl
      try simp only [Act.put, List.setIfInBounds_toArray, List.set_cons_zero, List.set_cons_succ]
      refine rgx_t (v := ?_) (some 44) 1 (by kernel_rfl) rfl rfl (.inl ⟨by rfl, fun w' q => ?_⟩) ?_
      rotate_left
      · go_simp <;> with_reducible rfl
      try simp only [Act.put, List.setIfInBounds_toArray, List.set_cons_zero, List.set_cons_succ]
      refine rgx_t (v := ?_) (some 45) 2 (by kernel_rfl) rfl rfl (.inl ⟨by rfl, fun w' q => ?_⟩) ?_
      rotate_left
      · go_simp <;> with_reducible rfl
      try simp only [Act.put, List.setIfInBounds_toArray, List.set_cons_zero, List.set_cons_succ]
      refine rgx_t (v := ?_) (some 46) 3 (by kernel_rfl) rfl rfl (.inl ⟨by rfl, fun w' q => ?_⟩) ?_
      rotate_left
      · go_simp <;> with_reducible rfl
      try simp only [Act.put, List.setIfInBounds_toArray, List.set_cons_zero, List.set_cons_succ]
      refine rgx_t (v := ?_) (some 47) 4 (by kernel_rfl) rfl rfl (.inl ⟨by rfl, fun w' q => ?_⟩) ?_
      rotate_left
      · go_simp <;> with_reducible rfl
      try simp only [Act.put, List.setIfInBounds_toArray, List.set_cons_zero, List.set_cons_succ]
      refine rgx_t (v := ?_) (some 48) 5 (by kernel_rfl) rfl rfl (.inl ⟨by rfl, fun w' q => ?_⟩) ?_
      rotate_left
      · go_simp <;> with_reducible rfl
      try simp only [Act.put, List.setIfInBounds_toArray, List.set_cons_zero, List.set_cons_succ]
      refine rgx_t (v := ?_) (some 49) 6 (by kernel_rfl) rfl rfl (.inl ⟨by rfl, fun w' q => ?_⟩) ?_
      rotate_left
      · go_simp <;> with_reducible rfl
      try simp only [Act.put, List.setIfInBounds_toArray, List.set_cons_zero, List.set_cons_succ]
      refine rgx_t (v := ?_) (some 50) 7 (by kernel_rfl) rfl rfl (.inl ⟨by rfl, fun w' q => ?_⟩) ?_
      rotate_left
      · go_simp <;> with_reducible rfl
      try simp only [Act.put, List.setIfInBounds_toArray, List.set_cons_zero, List.set_cons_succ]
      refine rgx_t (v := ?_) (some 51) 8 (by kernel_rfl) rfl rfl (.inl ⟨by rfl, fun w' q => ?_⟩) ?_
      rotate_left
      · go_simp <;> with_reducible rfl
      try simp only [Act.put, List.setIfInBounds_toArray, List.set_cons_zero, List.set_cons_succ]
      refine rgx_t (v := ?_) (some 52) 9 (by kernel_rfl) rfl rfl (.inl ⟨by rfl, fun w' q => ?_⟩) ?_
      rotate_left
      · go_simp <;> with_reducible rfl
      try simp only [Act.put, List.setIfInBounds_toArray, List.set_cons_zero, List.set_cons_succ]
      refine rgx_t (v := ?_) (some 53) 10 (by kernel_rfl) rfl rfl (.inl ⟨by rfl, fun w' q => ?_⟩) ?_
      rotate_left
      · go_simp <;> with_reducible rfl
      try simp only [Act.put, List.setIfInBounds_toArray, List.set_cons_zero, List.set_cons_succ]
      refine rgx_t (v := ?_) (some 54) 11 (by kernel_rfl) rfl rfl (.inl ⟨by rfl, fun w' q => ?_⟩) ?_
      rotate_left
      · go_simp <;> with_reducible rfl
      try simp only [Act.put, List.setIfInBounds_toArray, List.set_cons_zero, List.set_cons_succ]
      refine rgx_t (v := ?_) (some 55) 12 (by kernel_rfl) rfl rfl (.inl ⟨by rfl, fun w' q => ?_⟩) ?_
      rotate_left
      · go_simp <;> with_reducible rfl
      try simp only [Act.put, List.setIfInBounds_toArray, List.set_cons_zero, List.set_cons_succ]
      refine rgx_t (v := ?_) (some 56) 13 (by kernel_rfl) rfl rfl (.inl ⟨by rfl, fun w' q => ?_⟩) ?_
      rotate_left
      · go_simp <;> with_reducible rfl
      try simp only [Act.put, List.setIfInBounds_toArray, List.set_cons_zero, List.set_cons_succ]
      refine rgx_t (v := ?_) (some 57) 14 (by kernel_rfl) rfl rfl (.inl ⟨by rfl, fun w' q => ?_⟩) ?_
      rotate_left
      · go_simp <;> with_reducible rfl
      try simp only [Act.put, List.setIfInBounds_toArray, List.set_cons_zero, List.set_cons_succ]
      refine rgx_t (v := ?_) (some 58) 15 (by kernel_rfl) rfl rfl (.inl ⟨by rfl, fun w' q => ?_⟩) ?_
      rotate_left
      · go_simp <;> with_reducible rfl
      try simp only [Act.put, List.setIfInBounds_toArray, List.set_cons_zero, List.set_cons_succ]
      refine rgx_1 16 (by kernel_rfl) ?_
      refine ⟨_, rfl, by rfl, fun K hK => ?_⟩
      obtain ⟨q4, z4, l4⟩ := HBr3.out
      go_simp
      have hBf := (((((HBr3.out.set (k := 0) (v := .int .i64 tb) (cs' := #[.int .i64 tb, .int .i64 0, .int .i64 0, .int .i64 0, .int .i64 0]) (by simp) rfl).set (k := 1) (v := .int .i64 (fs + (l : Int))) (cs' := #[.int .i64 tb, .int .i64 (fs + (l : Int)), .int .i64 0, .int .i64 0, .int .i64 0]) (by simp) rfl).set (k := 2) (v := .int .i64 (z : Int)) (cs' := #[.int .i64 tb, .int .i64 (fs + (l : Int)), .int .i64 (z : Int), .int .i64 0, .int .i64 0]) (by simp) rfl).set (k := 3) (v := .int .i64 0) (cs' := #[.int .i64 tb, .int .i64 (fs + (l : Int)), .int .i64 (z : Int), .int .i64 0, .int .i64 0]) (by simp) rfl).set (k := 4) (v := .int .i64 0) (cs' := #[.int .i64 tb, .int .i64 (fs + (l : Int)), .int .i64 (z : Int), .int .i64 0, .int .i64 0]) (by simp) rfl)
      have hbf := (((((hbw2.setCell (p := ⟨w.heap.size, 0, none⟩) (Nat.le_refl _) (.int .i64 tb)).setCell (p := ⟨w.heap.size, 1, none⟩) (Nat.le_refl _) (.int .i64 (fs + (l : Int)))).setCell (p := ⟨w.heap.size, 2, none⟩) (Nat.le_refl _) (.int .i64 (z : Int))).setCell (p := ⟨w.heap.size, 3, none⟩) (Nat.le_refl _) (.int .i64 0)).setCell (p := ⟨w.heap.size, 4, none⟩) (Nat.le_refl _) (.int .i64 0))
      have hm : Mem (fun b => b = w.heap.size) y0 _ := (((((Mem.refl (fun b => b = w.heap.size) y0).of_set (g := w.heap.size) (k := 0) (v := .int .i64 tb) rfl).of_set (g := w.heap.size) (k := 1) (v := .int .i64 (fs + (l : Int))) rfl).of_set (g := w.heap.size) (k := 2) (v := .int .i64 (z : Int)) rfl).of_set (g := w.heap.size) (k := 3) (v := .int .i64 0) rfl).of_set (g := w.heap.size) (k := 4) (v := .int .i64 0) rfl
      refine hK (fun b => b = w.heap.size) _ _ (fun b h => .inl h) hm ?_
      clear q4 z4 l4 hm
      clear hK K
      try simp only [Act.put, List.setIfInBounds_toArray, List.set_cons_zero, List.set_cons_succ]
      refine rgx_t (v := ?_) (some 3) 17 (by kernel_rfl) rfl rfl (.inl ⟨by rfl, fun w' q => ?_⟩) ?_
      rotate_left
      · go_simp <;> with_reducible rfl
      try simp only [Act.put, List.setIfInBounds_toArray, List.set_cons_zero, List.set_cons_succ]
      refine rgx_d (by kernel_rfl) ?_
      go_wp2
      obtain ⟨qf, zf, lf⟩ := hBf
      refine bodyPost_ret (v := .tuple #[reqV tb (fs + l) z, .bool true]) (by simp [results, Try.results12, go_sem, qf, zf, lf, reqV]) rfl ⟨rfl, hbf⟩
  · have d1 : ((mode : Int) == 1) = false := by simp; omega
    rw [if_neg m1] at hz
    by_cases m2 : mode = 2
    · rw [if_pos m2] at hz
      have d2 : ((mode : Int) == 2) = true := by simp; omega
      have e2 : IntKind.i64.wrap ((lo : Int) + (hi : Int)) = ((lo + hi : Nat) : Int) := by rw [IntWalk.i64_in _ ⟨by omega, by omega⟩]; omega
      have HZZ := Lib.hid (show (z : Int) = ((lo : Int) + (hi : Int)) / 2 by omega)
      have e3 : IntKind.i64.wrap (Int.tdiv ((lo + hi : Nat) : Int) 2) = (z : Int) := by rw [Int.tdiv_eq_ediv_of_nonneg (by omega), IntWalk.i64_in _ ⟨by omega, by omega⟩]; omega
      clear hz
      go_upto_region 9 with fail
      go_quiet (fail)
      go_upto_region 10 with fail
      obtain ⟨W2, hW2⟩ : ∃ W2, W2 = W1.drewN nq := ⟨_, rfl⟩
      rw [← hW2]
      have hbc : Below W0.heap.size W0 W2 := by rw [hW2]; exact below_drewN hb01 _
      clear hW2
      have HB2 := Lib.hid ((HB.out.below hbc).drew)
      have HBr2 := Lib.hid ((HBr.out.below hbc).drew)
      have hbw2 := below_drew (ext_trans hb0 hbc)
      have hgl2 : h < w.heap.size := hgl
      have f1 : IntKind.i64.wrap (fs + (l : Int)) = fs + (l : Int) := IntWalk.i64_in _ ⟨by omega, by omega⟩
      clear y zz lz hbc
      have HB3 := Lib.hid HB2.out
      have HBr3 := Lib.hid HBr2.out
      obtain ⟨y0, hy0⟩ : ∃ y, W2.drew = y := ⟨_, rfl⟩
      rw [hy0] at HB3 HBr3 hbw2
      obtain ⟨yy, zy, ly⟩ := HB3.out
      have hnh : ¬ (h = w.heap.size) := by omega
      refine rgx_start_x (X := fun b => b = w.heap.size) (by kernel_rfl) ?_
      rw [hy0]
      refine rgx_t (v := ?_) (some 43) 0 (by kernel_rfl) rfl rfl (.inl ⟨by rfl, fun w' q => ?_⟩) ?_
      rotate_left
      · go_simp <;> with_reducible rfl
      try simp only [Act.put, List.setIfInBounds_toArray, List.set_cons_zero, List.set_cons_succ]
      refine rgx_t (v := ?_) (some 44) 1 (by kernel_rfl) rfl rfl (.inl ⟨by rfl, fun w' q => ?_⟩) ?_
      rotate_left
      · go_simp <;> with_reducible rfl
      try simp only [Act.put, List.setIfInBounds_toArray, List.set_cons_zero, List.set_cons_succ]
      refine rgx_t (v := ?_) (some 45) 2 (by kernel_rfl) rfl rfl (.inl ⟨by rfl, fun w' q => ?_⟩) ?_
      rotate_left
      · go_simp <;> with_reducible rfl
      try simp only [Act.put, List.setIfInBounds_toArray, List.set_cons_zero, List.set_cons_succ]
      refine rgx_t (v := ?_) (some 46) 3 (by kernel_rfl) rfl rfl (.inl ⟨by rfl, fun w' q => ?_⟩) ?_
      rotate_left
      · go_simp <;> with_reducible rfl
      try simp only [Act.put, List.setIfInBounds_toArray, List.set_cons_zero, List.set_cons_succ]
      refine rgx_t (v := ?_) (some 47) 4 (by kernel_rfl) rfl rfl (.inl ⟨by rfl, fun w' q => ?_⟩) ?_
      rotate_left
      · go_simp <;> with_reducible rfl
      try simp only [Act.put, List.setIfInBounds_toArray, List.set_cons_zero, List.set_cons_succ]
      refine rgx_t (v := ?_) (some 48) 5 (by kernel_rfl) rfl rfl (.inl ⟨by rfl, fun w' q => ?_⟩) ?_
      rotate_left
      · go_simp <;> with_reducible rfl
      try simp only [Act.put, List.setIfInBounds_toArray, List.set_cons_zero, List.set_cons_succ]
      refine rgx_t (v := ?_) (some 49) 6 (by kernel_rfl) rfl rfl (.inl ⟨by rfl, fun w' q => ?_⟩) ?_
      rotate_left
      · go_simp <;> with_reducible rfl
      try simp only [Act.put, List.setIfInBounds_toArray, List.set_cons_zero, List.set_cons_succ]
      refine rgx_t (v := ?_) (some 50) 7 (by kernel_rfl) rfl rfl (.inl ⟨by rfl, fun w' q => ?_⟩) ?_
      rotate_left
      · go_simp <;> with_reducible rfl
      try simp only [Act.put, List.setIfInBounds_toArray, List.set_cons_zero, List.set_cons_succ]
      refine rgx_t (v := ?_) (some 51) 8 (by kernel_rfl) rfl rfl (.inl ⟨by rfl, fun w' q => ?_⟩) ?_
      rotate_left
      · go_simp <;> with_reducible rfl
      try simp only [Act.put, List.setIfInBounds_toArray, List.set_cons_zero, List.set_cons_succ]
      refine rgx_t (v := ?_) (some 52) 9 (by kernel_rfl) rfl rfl (.inl ⟨by rfl, fun w' q => ?_⟩) ?_
      rotate_left
      · go_simp <;> with_reducible rfl
      try simp only [Act.put, List.setIfInBounds_toArray, List.set_cons_zero, List.set_cons_succ]
      refine rgx_t (v := ?_) (some 53) 10 (by kernel_rfl) rfl rfl (.inl ⟨by rfl, fun w' q => ?_⟩) ?_
      rotate_left
      · go_simp <;> with_reducible rfl
      try simp only [Act.put, List.setIfInBounds_toArray, List.set_cons_zero, List.set_cons_succ]
      refine rgx_t (v := ?_) (some 54) 11 (by kernel_rfl) rfl rfl (.inl ⟨by rfl, fun w' q => ?_⟩) ?_
      rotate_left
      · go_simp <;> with_reducible rfl
      try simp only [Act.put, List.setIfInBounds_toArray, List.set_cons_zero, List.set_cons_succ]
      refine rgx_t (v := ?_) (some 55) 12 (by kernel_rfl) rfl rfl (.inl ⟨by rfl, fun w' q => ?_⟩) ?_
      rotate_left
      · go_simp <;> with_reducible rfl
      try simp only [Act.put, List.setIfInBounds_toArray, List.set_cons_zero, List.set_cons_succ]
      refine rgx_t (v := ?_) (some 56) 13 (by kernel_rfl) rfl rfl (.inl ⟨by rfl, fun w' q => ?_⟩) ?_
      rotate_left
      · go_simp <;> with_reducible rfl
      try simp only [Act.put, List.setIfInBounds_toArray, List.set_cons_zero, List.set_cons_succ]
      refine rgx_t (v := ?_) (some 57) 14 (by kernel_rfl) rfl rfl (.inl ⟨by rfl, fun w' q => ?_⟩) ?_
      rotate_left
      · go_simp <;> with_reducible rfl
      try simp only [Act.put, List.setIfInBounds_toArray, List.set_cons_zero, List.set_cons_succ]
      refine rgx_t (v := ?_) (some 58) 15 (by kernel_rfl) rfl rfl (.inl ⟨by rfl, fun w' q => ?_⟩) ?_
      rotate_left
      · go_simp <;> with_reducible rfl
      try simp only [Act.put, List.setIfInBounds_toArray, List.set_cons_zero, List.set_cons_succ]
      refine rgx_1 16 (by kernel_rfl) ?_
      refine ⟨_, rfl, by rfl, fun K hK => ?_⟩
      obtain ⟨q4, z4, l4⟩ := HBr3.out
      go_simp
      have hBf := (((((HBr3.out.set (k := 0) (v := .int .i64 tb) (cs' := #[.int .i64 tb, .int .i64 0, .int .i64 0, .int .i64 0, .int .i64 0]) (by simp) rfl).set (k := 1) (v := .int .i64 (fs + (l : Int))) (cs' := #[.int .i64 tb, .int .i64 (fs + (l : Int)), .int .i64 0, .int .i64 0, .int .i64 0]) (by simp) rfl).set (k := 2) (v := .int .i64 ((((lo : Int) + (hi : Int)) / 2))) (cs' := #[.int .i64 tb, .int .i64 (fs + (l : Int)), .int .i64 ((((lo : Int) + (hi : Int)) / 2)), .int .i64 0, .int .i64 0]) (by simp) rfl).set (k := 3) (v := .int .i64 0) (cs' := #[.int .i64 tb, .int .i64 (fs + (l : Int)), .int .i64 ((((lo : Int) + (hi : Int)) / 2)), .int .i64 0, .int .i64 0]) (by simp) rfl).set (k := 4) (v := .int .i64 0) (cs' := #[.int .i64 tb, .int .i64 (fs + (l : Int)), .int .i64 ((((lo : Int) + (hi : Int)) / 2)), .int .i64 0, .int .i64 0]) (by simp) rfl)
      have hbf := (((((hbw2.setCell (p := ⟨w.heap.size, 0, none⟩) (Nat.le_refl _) (.int .i64 tb)).setCell (p := ⟨w.heap.size, 1, none⟩) (Nat.le_refl _) (.int .i64 (fs + (l : Int)))).setCell (p := ⟨w.heap.size, 2, none⟩) (Nat.le_refl _) (.int .i64 ((((lo : Int) + (hi : Int)) / 2)))).setCell (p := ⟨w.heap.size, 3, none⟩) (Nat.le_refl _) (.int .i64 0)).setCell (p := ⟨w.heap.size, 4, none⟩) (Nat.le_refl _) (.int .i64 0))
      have hm : Mem (fun b => b = w.heap.size) y0 _ := (((((Mem.refl (fun b => b = w.heap.size) y0).of_set (g := w.heap.size) (k := 0) (v := .int .i64 tb) rfl).of_set (g := w.heap.size) (k := 1) (v := .int .i64 (fs + (l : Int))) rfl).of_set (g := w.heap.size) (k := 2) (v := .int .i64 ((((lo : Int) + (hi : Int)) / 2))) rfl).of_set (g := w.heap.size) (k := 3) (v := .int .i64 0) rfl).of_set (g := w.heap.size) (k := 4) (v := .int .i64 0) rfl
      refine hK (fun b => b = w.heap.size) _ _ (fun b h => .inl h) hm ?_
      clear q4 z4 l4 hm
      clear hK K
      try simp only [Act.put, List.setIfInBounds_toArray, List.set_cons_zero, List.set_cons_succ]
      refine rgx_t (v := ?_) (some 3) 17 (by kernel_rfl) rfl rfl (.inl ⟨by rfl, fun w' q => ?_⟩) ?_
      rotate_left
      · go_simp <;> with_reducible rfl
      try simp only [Act.put, List.setIfInBounds_toArray, List.set_cons_zero, List.set_cons_succ]
      refine rgx_d (by kernel_rfl) ?_
      go_wp2
      obtain ⟨qf, zf, lf⟩ := hBf
      refine bodyPost_ret (v := .tuple #[reqV tb (fs + l) (((lo : Int) + (hi : Int)) / 2), .bool true]) (by simp [results, Try.results12, go_sem, qf, zf, lf, reqV]) rfl ⟨by rw [HZZ.out], hbf⟩
    · rw [if_neg m2] at hz
      subst hz
      have d2 : ((mode : Int) == 2) = false := by simp; omega
      go_upto_region 10 with fail
      obtain ⟨W2, hW2⟩ : ∃ W2, W2 = W1 := ⟨_, rfl⟩
      rw [← hW2]
      have hbc : Below W0.heap.size W0 W2 := by rw [hW2]; exact hb01
      clear hW2
      have HB2 := Lib.hid ((HB.out.below hbc).drew)
      have HBr2 := Lib.hid ((HBr.out.below hbc).drew)
      have hbw2 := below_drew (ext_trans hb0 hbc)
      have hgl2 : h < w.heap.size := hgl
      have f1 : IntKind.i64.wrap (fs + (l : Int)) = fs + (l : Int) := IntWalk.i64_in _ ⟨by omega, by omega⟩
      clear y zz lz hbc
      have HB3 := Lib.hid HB2.out
      have HBr3 := Lib.hid HBr2.out
      obtain ⟨y0, hy0⟩ : ∃ y, W2.drew = y := ⟨_, rfl⟩
      rw [hy0] at HB3 HBr3 hbw2
      obtain ⟨yy, zy, ly⟩ := HB3.out
      have hnh : ¬ (h = w.heap.size) := by omega
      refine rgx_start_x (X := fun b => b = w.heap.size) (by kernel_rfl) ?_
      rw [hy0]
      refine rgx_t (v := ?_) (some 43) 0 (by kernel_rfl) rfl rfl (.inl ⟨by rfl, fun w' q => ?_⟩) ?_
      rotate_left
      · go_simp <;> with_reducible rfl
      try simp only [Act.put, List.setIfInBounds_toArray, List.set_cons_zero, List.set_cons_succ]
      refine rgx_t (v := ?_) (some 44) 1 (by kernel_rfl) rfl rfl (.inl ⟨by rfl, fun w' q => ?_⟩) ?_
      rotate_left
      · go_simp <;> with_reducible rfl
      try simp only [Act.put, List.setIfInBounds_toArray, List.set_cons_zero, List.set_cons_succ]
      refine rgx_t (v := ?_) (some 45) 2 (by kernel_rfl) rfl rfl (.inl ⟨by rfl, fun w' q => ?_⟩) ?_
      rotate_left
      · go_simp <;> with_reducible rfl
      try simp only [Act.put, List.setIfInBounds_toArray, List.set_cons_zero, List.set_cons_succ]
      refine rgx_t (v := ?_) (some 46) 3 (by kernel_rfl) rfl rfl (.inl ⟨by rfl, fun w' q => ?_⟩) ?_
      rotate_left
      · go_simp <;> with_reducible rfl
      try simp only [Act.put, List.setIfInBounds_toArray, List.set_cons_zero, List.set_cons_succ]
      refine rgx_t (v := ?_) (some 47) 4 (by kernel_rfl) rfl rfl (.inl ⟨by rfl, fun w' q => ?_⟩) ?_
      rotate_left
      · go_simp <;> with_reducible rfl
      try simp only [Act.put, List.setIfInBounds_toArray, List.set_cons_zero, List.set_cons_succ]
      refine rgx_t (v := ?_) (some 48) 5 (by kernel_rfl) rfl rfl (.inl ⟨by rfl, fun w' q => ?_⟩) ?_
      rotate_left
      · go_simp <;> with_reducible rfl
      try simp only [Act.put, List.setIfInBounds_toArray, List.set_cons_zero, List.set_cons_succ]
      refine rgx_t (v := ?_) (some 49) 6 (by kernel_rfl) rfl rfl (.inl ⟨by rfl, fun w' q => ?_⟩) ?_
      rotate_left
      · go_simp <;> with_reducible rfl
      try simp only [Act.put, List.setIfInBounds_toArray, List.set_cons_zero, List.set_cons_succ]
      refine rgx_t (v := ?_) (some 50) 7 (by kernel_rfl) rfl rfl (.inl ⟨by rfl, fun w' q => ?_⟩) ?_
      rotate_left
      · go_simp <;> with_reducible rfl
      try simp only [Act.put, List.setIfInBounds_toArray, List.set_cons_zero, List.set_cons_succ]
      refine rgx_t (v := ?_) (some 51) 8 (by kernel_rfl) rfl rfl (.inl ⟨by rfl, fun w' q => ?_⟩) ?_
      rotate_left
      · go_simp <;> with_reducible rfl
      try simp only [Act.put, List.setIfInBounds_toArray, List.set_cons_zero, List.set_cons_succ]
      refine rgx_t (v := ?_) (some 52) 9 (by kernel_rfl) rfl rfl (.inl ⟨by rfl, fun w' q => ?_⟩) ?_
      rotate_left
      · go_simp <;> with_reducible rfl
      try simp only [Act.put, List.setIfInBounds_toArray, List.set_cons_zero, List.set_cons_succ]
      refine rgx_t (v := ?_) (some 53) 10 (by kernel_rfl) rfl rfl (.inl ⟨by rfl, fun w' q => ?_⟩) ?_
      rotate_left
      · go_simp <;> with_reducible rfl
      try simp only [Act.put, List.setIfInBounds_toArray, List.set_cons_zero, List.set_cons_succ]
      refine rgx_t (v := ?_) (some 54) 11 (by kernel_rfl) rfl rfl (.inl ⟨by rfl, fun w' q => ?_⟩) ?_
      rotate_left
      · go_simp <;> with_reducible rfl
      try simp only [Act.put, List.setIfInBounds_toArray, List.set_cons_zero, List.set_cons_succ]
      refine rgx_t (v := ?_) (some 55) 12 (by kernel_rfl) rfl rfl (.inl ⟨by rfl, fun w' q => ?_⟩) ?_
      rotate_left
      · go_simp <;> with_reducible rfl
      try simp only [Act.put, List.setIfInBounds_toArray, List.set_cons_zero, List.set_cons_succ]
      refine rgx_t (v := ?_) (some 56) 13 (by kernel_rfl) rfl rfl (.inl ⟨by rfl, fun w' q => ?_⟩) ?_
      rotate_left
      · go_simp <;> with_reducible rfl
      try simp only [Act.put, List.setIfInBounds_toArray, List.set_cons_zero, List.set_cons_succ]
      refine rgx_t (v := ?_) (some 57) 14 (by kernel_rfl) rfl rfl (.inl ⟨by rfl, fun w' q => ?_⟩) ?_
      rotate_left
      · go_simp <;> with_reducible rfl
      try simp only [Act.put, List.setIfInBounds_toArray, List.set_cons_zero, List.set_cons_succ]
      refine rgx_t (v := ?_) (some 58) 15 (by kernel_rfl) rfl rfl (.inl ⟨by rfl, fun w' q => ?_⟩) ?_
      rotate_left
      · go_simp <;> with_reducible rfl
      try simp only [Act.put, List.setIfInBounds_toArray, List.set_cons_zero, List.set_cons_succ]
      refine rgx_1 16 (by kernel_rfl) ?_
      refine ⟨_, rfl, by rfl, fun K hK => ?_⟩
      obtain ⟨q4, z4, l4⟩ := HBr3.out
      go_simp
      have hBf := (((((HBr3.out.set (k := 0) (v := .int .i64 tb) (cs' := #[.int .i64 tb, .int .i64 0, .int .i64 0, .int .i64 0, .int .i64 0]) (by simp) rfl).set (k := 1) (v := .int .i64 (fs + (l : Int))) (cs' := #[.int .i64 tb, .int .i64 (fs + (l : Int)), .int .i64 0, .int .i64 0, .int .i64 0]) (by simp) rfl).set (k := 2) (v := .int .i64 1) (cs' := #[.int .i64 tb, .int .i64 (fs + (l : Int)), .int .i64 1, .int .i64 0, .int .i64 0]) (by simp) rfl).set (k := 3) (v := .int .i64 0) (cs' := #[.int .i64 tb, .int .i64 (fs + (l : Int)), .int .i64 1, .int .i64 0, .int .i64 0]) (by simp) rfl).set (k := 4) (v := .int .i64 0) (cs' := #[.int .i64 tb, .int .i64 (fs + (l : Int)), .int .i64 1, .int .i64 0, .int .i64 0]) (by simp) rfl)
      have hbf := (((((hbw2.setCell (p := ⟨w.heap.size, 0, none⟩) (Nat.le_refl _) (.int .i64 tb)).setCell (p := ⟨w.heap.size, 1, none⟩) (Nat.le_refl _) (.int .i64 (fs + (l : Int)))).setCell (p := ⟨w.heap.size, 2, none⟩) (Nat.le_refl _) (.int .i64 1)).setCell (p := ⟨w.heap.size, 3, none⟩) (Nat.le_refl _) (.int .i64 0)).setCell (p := ⟨w.heap.size, 4, none⟩) (Nat.le_refl _) (.int .i64 0))
      have hm : Mem (fun b => b = w.heap.size) y0 _ := (((((Mem.refl (fun b => b = w.heap.size) y0).of_set (g := w.heap.size) (k := 0) (v := .int .i64 tb) rfl).of_set (g := w.heap.size) (k := 1) (v := .int .i64 (fs + (l : Int))) rfl).of_set (g := w.heap.size) (k := 2) (v := .int .i64 1) rfl).of_set (g := w.heap.size) (k := 3) (v := .int .i64 0) rfl).of_set (g := w.heap.size) (k := 4) (v := .int .i64 0) rfl
      refine hK (fun b => b = w.heap.size) _ _ (fun b h => .inl h) hm ?_
      clear q4 z4 l4 hm
      clear hK K
      try simp only [Act.put, List.setIfInBounds_toArray, List.set_cons_zero, List.set_cons_succ]
      refine rgx_t (v := ?_) (some 3) 17 (by kernel_rfl) rfl rfl (.inl ⟨by rfl, fun w' q => ?_⟩) ?_
      rotate_left
      · go_simp <;> with_reducible rfl
      try simp only [Act.put, List.setIfInBounds_toArray, List.set_cons_zero, List.set_cons_succ]
      refine rgx_d (by kernel_rfl) ?_
      go_wp2
      obtain ⟨qf, zf, lf⟩ := hBf
      refine bodyPost_ret (v := .tuple #[reqV tb (fs + l) 1, .bool true]) (by simp [results, Try.results12, go_sem, qf, zf, lf, reqV]) rfl ⟨rfl, hbf⟩
end Go.Proofs.Ytdkkfahnkenplaa

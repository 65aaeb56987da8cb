/- Layer 25: contracts of learn, Queries, Next. -/
import Derived.Test.YtdkkfahnkenplaaNp
import Derived.Test.YtdkkfahnkenplaaRegX
import Derived.Deep.DeepCutAuto
set_option linter.unusedVariables false
set_option linter.unusedSimpArgs false
namespace Go.Proofs.Ytdkkfahnkenplaa
open Go.RowKit
variable {F : Nat → Prop}

/-- learn: n addresses of kind k, then mode m. -/
def learnS (S : Mst) (n : Nat) (k : Int) (m : Nat) : Mst := { S with ks := S.ks ++ List.replicate n k, mode := m }
theorem append_new (ks : List Int) (n : Nat) (k : Int) (h : ks.length + n ≤ 65536) : appendL (ofL ks) (newL n k) = ofL (ks ++ List.replicate n k) := by
  have hs := ofL_spec ks
  have ht := ofL_tot ks
  have hp : partL (newL n k) 0 (65536 - tot (ofL ks)) = newL n k := by
    rw [ht, newL]
    by_cases h0 : n < 1 ∨ 65536 < n
    · rw [if_pos h0]; rfl
    · rw [if_neg h0]
      simp only [partL, partGo, Nat.zero_add]
      rw [if_neg (by omega), show min (65536 - ks.length) n - max 0 0 = n by omega]; rfl
  rw [appendL, hp]
  have hf := foldl_push (newL n k) (ofL ks) hs.1
  have he : expand (newL n k) = List.replicate n k := by
    rw [newL]
    by_cases h0 : n < 1 ∨ 65536 < n
    · rw [if_pos h0]
      have : n = 0 := by omega
      subst this; rfl
    · rw [if_neg h0]; simp [expand]
  rw [hs.2, he] at hf
  have h2 := ofL_spec (ks ++ List.replicate n k)
  exact Mx_unique _ _ none none hf.1 h2.1 (by rw [hf.2, h2.2])

set_option maxRecDepth 100000 in
set_option maxHeartbeats 2000000 in
theorem learn_any (S : Mst) (g : Nat) (w : World) (hS : MapAt F w g S) (hk : Mok S) (n0 : Nat) (k : Int) (m : Nat) (hn : S.ks.length + n0 ≤ 512) :
    Calls Try.prog 32 #[mptr g, .int .i64 n0, .int .i64 k, .int .i64 m] w fun e w' => e = .returned (.tuple #[]) ∧ MapAt F w' g (learnS S n0 k m) ∧ w.grownBy w' (some g) := by
  obtain ⟨A, n, c, hB, hR, hne⟩ := hS
  have hapn := append_new S.ks n0 k (by omega)
  obtain ⟨tb, fs, N, M, mode, lo, hi, ks, q⟩ := S
  dsimp only at hR hB hn hapn
  have hrl := hR.rlen
  have hln := ofL_length ks
  have htt := ofL_tot ks
  have hnl : (newL n0 k).length ≤ 1 := by rw [newL]; split <;> simp
  have hnt : tot (newL n0 k) ≤ 512 := by rw [newL]; split <;> simp [tot]; omega
  have hk2 := hk
  obtain ⟨k1, k2, k3, k4, k5, k6⟩ := hk2
  dsimp only at k1 k2 k3 k4 k5 k6
  have hlk : ks.length ≤ 512 := by omega
  obtain ⟨m0, hm0⟩ : ∃ m0, (newL n0 k).length = m0 := ⟨_, rfl⟩
  have HN := Lib.hid (fun W => new_any n0 k W (by omega))
  have HAP := Lib.hid (fun (W : World) (A2 : Option Addr) (c2 : Nat) (h : Below w.heap.size w W) (hr2 : Rd W W.heap.size 2 A2 m0 (rnCells (newL n0 k))) => append_own (ofL ks) (newL n0 k) A A2 n c m0 c2 W.heap.size W ((hR.below h (Nat.le_refl _)).more h.size) hr2 (by omega) (by omega) (Nat.le_refl _) (by omega) (by omega))
  rw [hapn] at HAP
  have HM0 := Lib.hid hm0
  have hgl : g < w.heap.size := hB.2.2
  have HB := Lib.hid hB
  have hbw : Below w.heap.size w w.drew := below_drew (Below.refl _ _)
  have HNF := Lib.hid hne
  clear hR hne hapn hrl hln htt hnl hnt hm0 hB
  go_enter Try.func32, Try.ntmps32
  go_upto_region 0 with fail
  go_cut [] (fun x => ∃ A3 n3 c3, Box x g #[.int .i64 tb, .int .i64 fs, .int .i64 N, .int .i64 M, .int .i64 mode, .int .i64 lo, .int .i64 hi, .slice A3 n3 c3, .int .i64 q] ∧ Rd x x.heap.size 2 A3 n3 (rnCells (ofL (ks ++ List.replicate n0 k))) ∧ NoF F g x A3 ∧ w.grownBy x (some g))
  case first =>
    have HB := Lib.hid HB.out.drew
    refine rgx_start_all (by kernel_rfl) ?_
    revert hbw
    revert HB
    generalize w.drew = w0
    intro HB hbw
    refine rgx_t (v := ?_) (some 8) 0 (by kernel_rfl) rfl rfl (.inl ⟨by rfl, fun w' q => ?_⟩) ?_
    rotate_left
    · go_simp <;> with_reducible rfl
    try simp only [Act.put, List.setIfInBounds_toArray, List.set_cons_zero, List.set_cons_succ]
    refine rgx_t (v := ?_) (some 9) 1 (by kernel_rfl) rfl rfl (.inl ⟨by rfl, fun w' q => ?_⟩) ?_
    rotate_left
    · go_simp <;> with_reducible rfl
    try simp only [Act.put, List.setIfInBounds_toArray, List.set_cons_zero, List.set_cons_succ]
    refine rgx_t (v := ?_) (some 10) 2 (by kernel_rfl) rfl rfl (.inl ⟨by rfl, fun w' q => ?_⟩) ?_
    rotate_left
    · go_simp <;> with_reducible rfl
    try simp only [Act.put, List.setIfInBounds_toArray, List.set_cons_zero, List.set_cons_succ]
    refine rgx_t (v := ?_) (some 11) 3 (by kernel_rfl) rfl rfl (.inl ⟨by rfl, fun w' q => ?_⟩) ?_
    rotate_left
    · go_simp <;> with_reducible rfl
    try simp only [Act.put, List.setIfInBounds_toArray, List.set_cons_zero, List.set_cons_succ]
    refine rgx_t (v := ?_) (some 13) 5 (by kernel_rfl) rfl rfl (.inl ⟨by rfl, fun w' q => ?_⟩) ?_
    rotate_left
    · go_simp <;> with_reducible rfl
    try simp only [Act.put, List.setIfInBounds_toArray, List.set_cons_zero, List.set_cons_succ]
    refine rgx_t (v := ?_) (some 14) 6 (by kernel_rfl) rfl rfl (.inl ⟨by rfl, fun w' q => ?_⟩) ?_
    rotate_left
    · go_simp <;> with_reducible rfl
    try simp only [Act.put, List.setIfInBounds_toArray, List.set_cons_zero, List.set_cons_succ]
    refine rgx_2 4 7 (by kernel_rfl) ?_ ?_
    · refine ⟨_, rfl, by rfl, fun K hK => ?_⟩
      obtain ⟨q4, z4, l4⟩ := HB.out
      go_simp
      obtain ⟨x1, hE⟩ : ∃ W : World, W = w0 := ⟨_, rfl⟩
      subst hE
      refine hK (fun b => True) _ _ (fun b h => .inl h) (Mem.refl _ _) ?_
      clear q4 z4 l4
      clear hK K
      try simp only [Act.put, List.setIfInBounds_toArray, List.set_cons_zero, List.set_cons_succ]
      refine rgx_1 7 (by kernel_rfl) ?_
      refine ⟨_, rfl, by rfl, fun K hK => ?_⟩
      go_simp
      refine (HN.out _).mono ?_
      rintro e x2 h
      obtain ⟨A2, c2, rfl, hR2, hb⟩ := h.open_ m0 HM0.out
      have HB := Lib.hid (HB.out.below hb)
      have hbw := ext_trans hbw hb
      have HR2 := Lib.hid hR2
      refine hK (fun b => True) _ _ (fun b h => .inl h) (Mem.of_below hb) ?_
      clear h hR2 hb
      clear hK K
      try simp only [Act.put, List.setIfInBounds_toArray, List.set_cons_zero, List.set_cons_succ]
      refine rgx_1 8 (by kernel_rfl) ?_
      refine ⟨_, rfl, by rfl, fun K hK => ?_⟩
      go_simp
      refine (HAP.out _ _ _ hbw HR2.out).mono ?_
      rintro e x3 h
      obtain ⟨A3, n3, c3, rfl, hR3, hb, hq⟩ := h
      have hne3 := HNF.out.new (Nat.le_trans hbw.size hb.size) (fun b off hA => ⟨Nat.le_trans hbw.size (hq b off hA).1, (hq b off hA).2⟩)
      have HB := Lib.hid (HB.out.below hb)
      have hbw := ext_trans hbw hb
      have HR3 := Lib.hid hR3
      have HNE := Lib.hid hne3
      refine hK (fun b => True) _ _ (fun b h => .inl h) (Mem.of_below hb) ?_
      clear hR3 hb hq hne3 HR2
      clear hK K
      try simp only [Act.put, List.setIfInBounds_toArray, List.set_cons_zero, List.set_cons_succ]
      refine rgx_t (v := ?_) (some 17) 9 (by kernel_rfl) rfl rfl (.inl ⟨by rfl, fun w' q => ?_⟩) ?_
      rotate_left
      · go_simp <;> with_reducible rfl
      try simp only [Act.put, List.setIfInBounds_toArray, List.set_cons_zero, List.set_cons_succ]
      refine rgx_t (v := ?_) (some 18) 10 (by kernel_rfl) rfl rfl (.inl ⟨by rfl, fun w' q => ?_⟩) ?_
      rotate_left
      · go_simp <;> with_reducible rfl
      try simp only [Act.put, List.setIfInBounds_toArray, List.set_cons_zero, List.set_cons_succ]
      refine rgx_1 11 (by kernel_rfl) ?_
      refine ⟨_, rfl, by rfl, fun K hK => ?_⟩
      obtain ⟨q4, z4, l4⟩ := HB.out
      go_simp
      have hBn : Box (x3.setCell ⟨g, 7, none⟩ (.slice A3 n3 c3)) g #[.int .i64 tb, .int .i64 fs, .int .i64 N, .int .i64 M, .int .i64 mode, .int .i64 lo, .int .i64 hi, .slice A3 n3 c3, .int .i64 q] := HB.out.set (k := 7) (v := .slice A3 n3 c3) (by simp) rfl
      have hg := one_set (one_refl x3 g) 7 (.slice A3 n3 c3)
      have hRn := (HR3.out.off_row hg (Nat.le_refl _) (fun b off hA hh => HNE.out.ne b off hA (by injection hh))).more hg.size
      have hnf := HNE.out.size (w' := x3.setCell ⟨g, 7, none⟩ (.slice A3 n3 c3)) hg.size
      have hgr := one_set (one_below (one_refl w g) hbw) 7 (.slice A3 n3 c3)
      have hm : Mem (fun b => True) x3 (x3.setCell ⟨g, 7, none⟩ (.slice A3 n3 c3)) := (Mem.refl _ _).of_set trivial
      obtain ⟨x4, hW⟩ : ∃ W, (x3.setCell ⟨g, 7, none⟩ (.slice A3 n3 c3)) = W := ⟨_, rfl⟩
      rw [hW] at hBn hRn hgr hm hnf ⊢
      refine hK (fun b => True) _ _ (fun b h => .inl h) hm ?_
      clear q4 z4 l4 hg hm hW
      clear hK K
      try simp only [Act.put, List.setIfInBounds_toArray, List.set_cons_zero, List.set_cons_succ]
      refine rgx_d (by kernel_rfl) ?_
      go_wp2_with fail
      go_meet
      case rel => exact ⟨A3, n3, c3, hBn, hRn, hnf, hgr⟩
    · refine ⟨_, rfl, by rfl, fun K hK => ?_⟩
      go_simp
      refine (HN.out _).mono ?_
      rintro e x1 h
      obtain ⟨A2, c2, rfl, hR2, hb⟩ := h.open_ m0 HM0.out
      have HB := Lib.hid (HB.out.below hb)
      have hbw := ext_trans hbw hb
      have HR2 := Lib.hid hR2
      refine hK (fun b => True) _ _ (fun b h => .inl h) (Mem.of_below hb) ?_
      clear h hR2 hb
      clear hK K
      try simp only [Act.put, List.setIfInBounds_toArray, List.set_cons_zero, List.set_cons_succ]
      refine rgx_1 4 (by kernel_rfl) ?_
      refine ⟨_, rfl, by rfl, fun K hK => ?_⟩
      obtain ⟨q4, z4, l4⟩ := HB.out
      go_simp
      obtain ⟨x2, hE⟩ : ∃ W : World, W = x1 := ⟨_, rfl⟩
      subst hE
      refine hK (fun b => True) _ _ (fun b h => .inl h) (Mem.refl _ _) ?_
      clear q4 z4 l4
      clear hK K
      try simp only [Act.put, List.setIfInBounds_toArray, List.set_cons_zero, List.set_cons_succ]
      refine rgx_1 8 (by kernel_rfl) ?_
      refine ⟨_, rfl, by rfl, fun K hK => ?_⟩
      go_simp
      refine (HAP.out _ _ _ hbw HR2.out).mono ?_
      rintro e x3 h
      obtain ⟨A3, n3, c3, rfl, hR3, hb, hq⟩ := h
      have hne3 := HNF.out.new (Nat.le_trans hbw.size hb.size) (fun b off hA => ⟨Nat.le_trans hbw.size (hq b off hA).1, (hq b off hA).2⟩)
      have HB := Lib.hid (HB.out.below hb)
      have hbw := ext_trans hbw hb
      have HR3 := Lib.hid hR3
      have HNE := Lib.hid hne3
      refine hK (fun b => True) _ _ (fun b h => .inl h) (Mem.of_below hb) ?_
      clear hR3 hb hq hne3 HR2
      clear hK K
      try simp only [Act.put, List.setIfInBounds_toArray, List.set_cons_zero, List.set_cons_succ]
      refine rgx_t (v := ?_) (some 17) 9 (by kernel_rfl) rfl rfl (.inl ⟨by rfl, fun w' q => ?_⟩) ?_
      rotate_left
      · go_simp <;> with_reducible rfl
      try simp only [Act.put, List.setIfInBounds_toArray, List.set_cons_zero, List.set_cons_succ]
      refine rgx_t (v := ?_) (some 18) 10 (by kernel_rfl) rfl rfl (.inl ⟨by rfl, fun w' q => ?_⟩) ?_
      rotate_left
      · go_simp <;> with_reducible rfl
      try simp only [Act.put, List.setIfInBounds_toArray, List.set_cons_zero, List.set_cons_succ]
      refine rgx_1 11 (by kernel_rfl) ?_
      refine ⟨_, rfl, by rfl, fun K hK => ?_⟩
      obtain ⟨q4, z4, l4⟩ := HB.out
      go_simp
      have hBn : Box (x3.setCell ⟨g, 7, none⟩ (.slice A3 n3 c3)) g #[.int .i64 tb, .int .i64 fs, .int .i64 N, .int .i64 M, .int .i64 mode, .int .i64 lo, .int .i64 hi, .slice A3 n3 c3, .int .i64 q] := HB.out.set (k := 7) (v := .slice A3 n3 c3) (by simp) rfl
      have hg := one_set (one_refl x3 g) 7 (.slice A3 n3 c3)
      have hRn := (HR3.out.off_row hg (Nat.le_refl _) (fun b off hA hh => HNE.out.ne b off hA (by injection hh))).more hg.size
      have hnf := HNE.out.size (w' := x3.setCell ⟨g, 7, none⟩ (.slice A3 n3 c3)) hg.size
      have hgr := one_set (one_below (one_refl w g) hbw) 7 (.slice A3 n3 c3)
      have hm : Mem (fun b => True) x3 (x3.setCell ⟨g, 7, none⟩ (.slice A3 n3 c3)) := (Mem.refl _ _).of_set trivial
      obtain ⟨x4, hW⟩ : ∃ W, (x3.setCell ⟨g, 7, none⟩ (.slice A3 n3 c3)) = W := ⟨_, rfl⟩
      rw [hW] at hBn hRn hgr hm hnf ⊢
      refine hK (fun b => True) _ _ (fun b h => .inl h) hm ?_
      clear q4 z4 l4 hg hm hW
      clear hK K
      try simp only [Act.put, List.setIfInBounds_toArray, List.set_cons_zero, List.set_cons_succ]
      refine rgx_d (by kernel_rfl) ?_
      go_wp2_with fail
      go_meet
      case rel => exact ⟨A3, n3, c3, hBn, hRn, hnf, hgr⟩
  case rest =>
    obtain ⟨A3, n3, c3, hB3, hR3, hne3, hgr⟩ := hcut
    have HB3 := Lib.hid hB3
    obtain ⟨q4, z4, l4⟩ := hB3
    have HR3 := Lib.hid hR3
    have HNE := Lib.hid hne3
    clear hR3 hne3 HN HAP
    go_wp2_with fail
    have hg := one_set (one_refl wc g) 4 (.int .i64 m)
    have hRn := (HR3.out.off_row hg (Nat.le_refl _) (fun b off hA hh => HNE.out.ne b off hA (by injection hh))).more hg.size
    go_end0
    exact ⟨rfl, ⟨A3, n3, c3, HB3.out.set (k := 4) (v := .int .i64 m) (by simp) rfl, hRn, HNE.out.size hg.size⟩, one_set hgr 4 (.int .i64 m)⟩
end Go.Proofs.Ytdkkfahnkenplaa

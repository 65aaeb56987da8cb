/- Layer 12: the law RangesCovers. -/
import Derived.Test.YtebeaghombjooaaRs
import Derived.Test.YtebeaghombjooaaReg
import Derived.Test.YtebeaghombjooaaMake
import Derived.Test.YtebeaghombjooaaRegX
import Derived.Deep.DeepCutAuto
set_option linter.unusedVariables false
set_option linter.unusedSimpArgs false
namespace Go.Proofs.Ytebeaghombjooaa
open Go.RowKit

theorem mod_eq (x n r : Int) (hn : 1 ≤ n) (hn2 : n ≤ 1000000000) (h : x % n = r) (w : World) : Calls Try.prog 29 #[.int .i64 x, .int .i64 n] w fun e w' => e = .returned (.int .i64 r) ∧ w = w' := by
  subst h; exact mod_any x n hn hn2 w
set_option maxRecDepth 100000 in
theorem cov_count (a : List Rg) (ha : validL a = true) (y1 y2 : Int) (N : Nat) (hN : N = 65536) (h0 : 0 ≤ y1) (ho : okR 0 (y1, y2) = true) :
    covB a (y1, y2) = (sumL (setL (closeTo (clipF (y1, y2) (openF a) N) N)) == y2) := by
  obtain ⟨p, rfl⟩ : ∃ p : Nat, y1 = p := ⟨y1.toNat, by omega⟩
  have ho2 := (okR_iff _ _).1 ho
  simp only at ho2
  obtain ⟨q, rfl⟩ : ∃ q : Nat, y2 = q := ⟨y2.toNat, by omega⟩
  rw [sum_close _ N (by omega), cov_eq, rcovB, ho, ha, Bool.true_and, Bool.true_and, Bool.eq_iff_iff, allFrom_iff, beq_iff_eq]
  have hc : cntF (clipF (↑p, ↑q) (openF a) N) N = cntF (fun i => openF a i && decide (p ≤ i ∧ i < p + q)) N := by
    refine cnt_congr _ _ N fun i hi => ?_
    have e : inC ((p : Int), (q : Int)) (i : Int) = decide (p ≤ i ∧ i < p + q) := by
      rw [inC, decide_eq_decide]
      simp only
      omega
    rw [clipF, if_pos hi, e]
  rw [hc, (cnt_part (openF a) p q N (by omega)).2]
  have hop : ∀ i, openF a i = inL a i := fun i => by rw [openF, setL, if_pos ha]
  simp only [hop, Int.toNat_natCast]
  constructor
  · intro h i h1 h2
    exact h i (by omega) (by omega)
  · intro h i h1 h2
    obtain ⟨j, rfl⟩ : ∃ j : Nat, i = j := ⟨i.toNat, by omega⟩
    exact h j (by omega) (by omega)

set_option maxRecDepth 100000 in
set_option maxHeartbeats 4000000 in
theorem lawCovers_any (x0 : List Int) (A : Option Addr) (n c : Nat) (m1 m2 : Int) (w : World) (hr : Rd w w.heap.size 1 A n (i64s x0)) (hc : n ≤ c) (hcm : c ≤ maxLen) (hx : ∀ x ∈ x0, -9223372036854775808 ≤ x ∧ x ≤ 9223372036854775807) :
    Calls Try.prog 8 #[.slice A n c, .agg #[.int .i64 m1, .int .i64 m2]] w fun e w' => e = .returned (.bool true) ∧ Below w.heap.size w w' := by
  obtain ⟨N, hN⟩ : ∃ N, N = 65536 := ⟨_, rfl⟩
  have hb0 : Below w.heap.size w (w.alloc (.cells #[.int .i64 m1, .int .i64 m2] 37)) := (Below.refl _ _).alloc (Nat.le_refl _) _
  have HI1 := Lib.hid (ints_any 40 x0 A n c _ _ (hr.below hb0 (Nat.le_refl _)) (by omega) hc hcm)
  have hx' : ∀ x ∈ x0.take 40, -9223372036854775808 ≤ x ∧ x ≤ 9223372036854775807 := fun x hxx => hx x (List.mem_of_mem_take hxx)
  obtain ⟨l, hl⟩ : ∃ l, x0.take 40 = l := ⟨_, rfl⟩
  rw [hl] at HI1 hx'
  have hof := fun (k : Nat) (hk : k ≤ 40) (B : Nat) (W : World) (h : Rd W B 1 A k (i64s l)) => of_any l A k c B N W h (by omega) hN hx'
  have hv := (closeTo_spec (ofF l) N (by omega)).1.valid
  have hcl : (closeTo (ofF l) N).length ≤ 65536 := Nat.le_trans (closeTo_len _ _) (by omega)
  obtain ⟨C, hC⟩ : ∃ C, closeTo (ofF l) N = C := ⟨_, rfl⟩
  simp only [hC] at hof hv hcl
  obtain ⟨y1, hy1⟩ : ∃ y, m1 % 65536 = y := ⟨_, rfl⟩
  obtain ⟨y2, hy2⟩ : ∃ y, m2 % 50 = y := ⟨_, rfl⟩
  have HM1 := Lib.hid (fun W => mod_eq m1 65536 y1 (by omega) (by omega) hy1 W)
  have HM2 := Lib.hid (fun W => mod_eq m2 50 y2 (by omega) (by omega) hy2 W)
  have b1 : 0 ≤ y1 ∧ y1 < 65536 := by omega
  have b2 : 0 ≤ y2 ∧ y2 < 50 := by omega
  obtain ⟨b3, b4⟩ := b1
  obtain ⟨b5, b6⟩ := b2
  have hcc := fun (ho : okR 0 (y1, y2) = true) => cov_count C hv y1 y2 N hN b3 ho
  have HOF := Lib.hid hof
  have HCC := Lib.hid hcc
  have HX := Lib.hid (Box.alloc_ (w := w) (cs := #[.int .i64 m1, .int .i64 m2]) (e := 37))
  have HB0 := Lib.hid hb0
  have HN := Lib.hid hN
  clear hr hc hcm hx hx' hl hof hv hC hN hcc hy1 hy2 hb0
  go_enter Try.func8, Try.ntmps8
  go_wp2_with fail
  refine HI1.out.mono ?_
  rintro e w0 ⟨⟨k1, rfl, hk1, _, hR1⟩, rfl⟩
  go_wp2_with fail
  refine (HOF.out k1 hk1 _ _ hR1).mono ?_
  intro e w1 h
  obtain ⟨v, rfl, ho, hb1⟩ := h
  obtain ⟨Aa, ca, rfl, _, hRa⟩ := own_form ho
  have hne : ∀ b off, Aa = some ⟨b, off, none⟩ → b ≠ w.heap.size := fun b off e => by have := (ho.lt b (by rw [e]; rfl)).1; simp at this; omega
  have HNE := Lib.hid hne
  have HRa := Lib.hid hRa
  have HB := Lib.hid (ext_trans HB0.out hb1)
  have HX1 := Lib.hid (HX.out.below hb1)
  clear ho hne hRa hb1 hR1 HI1 HOF HX HB0
  go_upto_region 2 with fail
  go_cut [] (fun x => Box x w.heap.size #[.int .i64 y1, .int .i64 y2] ∧ Rd x x.heap.size 2 Aa C.length (rgCells C) ∧ Below w.heap.size w x)
  case first =>
    have HB := Lib.hid (below_drew HB.out)
    have HX := Lib.hid HX1.out.drew
    have HRa := Lib.hid (show Rd w1.drew w1.drew.heap.size 2 Aa C.length (rgCells C) from HRa.out)
    refine rgx_start_all (by kernel_rfl) ?_
    clear HX1
    revert HB
    revert HX
    revert HRa
    generalize w1.drew = w0
    intro HRa HX HB
    refine rgx_t (v := ?_) (some 10) 0 (by kernel_rfl) rfl rfl (.inl ⟨by rfl, fun w' q => ?_⟩) ?_
    rotate_left
    · go_simp <;> with_reducible rfl
    try simp only [Act.put, List.setIfInBounds_toArray, List.set_cons_zero, List.set_cons_succ]
    refine rgx_t (v := ?_) (some 13) 3 (by kernel_rfl) rfl rfl (.inl ⟨by rfl, fun w' q => ?_⟩) ?_
    rotate_left
    · go_simp <;> with_reducible rfl
    try simp only [Act.put, List.setIfInBounds_toArray, List.set_cons_zero, List.set_cons_succ]
    refine rgx_2 1 4 (by kernel_rfl) ?_ ?_
    · refine ⟨_, rfl, by rfl, fun K hK => ?_⟩
      obtain ⟨q4, z4, l4⟩ := HX.out
      go_simp
      obtain ⟨x1, hE⟩ : ∃ W : World, W = w0 := ⟨_, rfl⟩
      subst hE
      refine hK (fun b => True) _ _ (fun b h => .inl h) (Mem.refl _ _) ?_
      clear q4 z4 l4
      clear hK K
      try simp only [Act.put, List.setIfInBounds_toArray, List.set_cons_zero, List.set_cons_succ]
      refine rgx_q (v := ?_) (some 12) 2 (by kernel_rfl) rfl rfl (by rfl) (fun w' hw K hK => ?_) ?_
      rotate_left
      · go_simp
        refine (HM1.out _).mono ?_
        rintro e w'' ⟨rfl, rfl⟩
        exact hK
      try simp only [Act.put, List.setIfInBounds_toArray, List.set_cons_zero, List.set_cons_succ]
      refine rgx_1 4 (by kernel_rfl) ?_
      refine ⟨_, rfl, by rfl, fun K hK => ?_⟩
      obtain ⟨q4, z4, l4⟩ := HX.out
      go_simp
      obtain ⟨x2, hE⟩ : ∃ W : World, W = x1 := ⟨_, rfl⟩
      subst hE
      refine hK (fun b => True) _ _ (fun b h => .inl h) (Mem.refl _ _) ?_
      clear q4 z4 l4
      clear hK K
      try simp only [Act.put, List.setIfInBounds_toArray, List.set_cons_zero, List.set_cons_succ]
      refine rgx_q (v := ?_) (some 15) 5 (by kernel_rfl) rfl rfl (by rfl) (fun w' hw K hK => ?_) ?_
      rotate_left
      · go_simp
        refine (HM2.out _).mono ?_
        rintro e w'' ⟨rfl, rfl⟩
        exact hK
      try simp only [Act.put, List.setIfInBounds_toArray, List.set_cons_zero, List.set_cons_succ]
      refine rgx_t (v := ?_) (some 16) 6 (by kernel_rfl) rfl rfl (.inl ⟨by rfl, fun w' q => ?_⟩) ?_
      rotate_left
      · go_simp <;> with_reducible rfl
      try simp only [Act.put, List.setIfInBounds_toArray, List.set_cons_zero, List.set_cons_succ]
      refine rgx_1 7 (by kernel_rfl) ?_
      refine ⟨_, rfl, by rfl, fun K hK => ?_⟩
      obtain ⟨q4, z4, l4⟩ := HX.out
      go_simp
      have hBn : Box (x2.setCell ⟨w.heap.size, 0, none⟩ (.int .i64 y1)) w.heap.size #[.int .i64 y1, .int .i64 m2] := HX.out.set (k := 0) (v := .int .i64 y1) (by simp) rfl
      have hg := one_set (one_refl x2 w.heap.size) 0 (.int .i64 y1)
      have hRn := (HRa.out.off_row hg (Nat.le_refl _) (fun b off hA hh => HNE.out b off hA (by injection hh))).more hg.size
      have hgr := HB.out.setCell (p := ⟨w.heap.size, 0, none⟩) (Nat.le_refl _) (.int .i64 y1)
      have hm : Mem (fun b => True) x2 (x2.setCell ⟨w.heap.size, 0, none⟩ (.int .i64 y1)) := (Mem.refl _ _).of_set trivial
      obtain ⟨x3, hW⟩ : ∃ W, (x2.setCell ⟨w.heap.size, 0, none⟩ (.int .i64 y1)) = W := ⟨_, rfl⟩
      rw [hW] at hBn hRn hgr hm ⊢
      have HX := Lib.hid hBn
      have HRa := Lib.hid hRn
      have HB := Lib.hid hgr
      refine hK (fun b => True) _ _ (fun b h => .inl h) hm ?_
      clear q4 z4 l4 hg hm hW hBn hRn hgr
      clear hK K
      try simp only [Act.put, List.setIfInBounds_toArray, List.set_cons_zero, List.set_cons_succ]
      refine rgx_t (v := ?_) (some 17) 8 (by kernel_rfl) rfl rfl (.inl ⟨by rfl, fun w' q => ?_⟩) ?_
      rotate_left
      · go_simp <;> with_reducible rfl
      try simp only [Act.put, List.setIfInBounds_toArray, List.set_cons_zero, List.set_cons_succ]
      refine rgx_1 9 (by kernel_rfl) ?_
      refine ⟨_, rfl, by rfl, fun K hK => ?_⟩
      obtain ⟨q4, z4, l4⟩ := HX.out
      go_simp
      have hBn : Box (x3.setCell ⟨w.heap.size, 1, none⟩ (.int .i64 y2)) w.heap.size #[.int .i64 y1, .int .i64 y2] := HX.out.set (k := 1) (v := .int .i64 y2) (by simp) rfl
      have hg := one_set (one_refl x3 w.heap.size) 1 (.int .i64 y2)
      have hRn := (HRa.out.off_row hg (Nat.le_refl _) (fun b off hA hh => HNE.out b off hA (by injection hh))).more hg.size
      have hgr := HB.out.setCell (p := ⟨w.heap.size, 1, none⟩) (Nat.le_refl _) (.int .i64 y2)
      have hm : Mem (fun b => True) x3 (x3.setCell ⟨w.heap.size, 1, none⟩ (.int .i64 y2)) := (Mem.refl _ _).of_set trivial
      obtain ⟨x4, hW⟩ : ∃ W, (x3.setCell ⟨w.heap.size, 1, none⟩ (.int .i64 y2)) = W := ⟨_, rfl⟩
      rw [hW] at hBn hRn hgr hm ⊢
      have HX := Lib.hid hBn
      have HRa := Lib.hid hRn
      have HB := Lib.hid hgr
      refine hK (fun b => True) _ _ (fun b h => .inl h) hm ?_
      clear q4 z4 l4 hg hm hW hBn hRn hgr
      clear hK K
      try simp only [Act.put, List.setIfInBounds_toArray, List.set_cons_zero, List.set_cons_succ]
      refine rgx_d (by kernel_rfl) ?_
      go_wp2_with fail
      go_meet
      case rel => exact ⟨HX.out, HRa.out, HB.out⟩
    · refine ⟨_, rfl, by rfl, fun K hK => ?_⟩
      obtain ⟨q4, z4, l4⟩ := HX.out
      go_simp
      obtain ⟨x1, hE⟩ : ∃ W : World, W = w0 := ⟨_, rfl⟩
      subst hE
      refine hK (fun b => True) _ _ (fun b h => .inl h) (Mem.refl _ _) ?_
      clear q4 z4 l4
      clear hK K
      try simp only [Act.put, List.setIfInBounds_toArray, List.set_cons_zero, List.set_cons_succ]
      refine rgx_1 1 (by kernel_rfl) ?_
      refine ⟨_, rfl, by rfl, fun K hK => ?_⟩
      obtain ⟨q4, z4, l4⟩ := HX.out
      go_simp
      obtain ⟨x2, hE⟩ : ∃ W : World, W = x1 := ⟨_, rfl⟩
      subst hE
      refine hK (fun b => True) _ _ (fun b h => .inl h) (Mem.refl _ _) ?_
      clear q4 z4 l4
      clear hK K
      try simp only [Act.put, List.setIfInBounds_toArray, List.set_cons_zero, List.set_cons_succ]
      refine rgx_q (v := ?_) (some 12) 2 (by kernel_rfl) rfl rfl (by rfl) (fun w' hw K hK => ?_) ?_
      rotate_left
      · go_simp
        refine (HM1.out _).mono ?_
        rintro e w'' ⟨rfl, rfl⟩
        exact hK
      try simp only [Act.put, List.setIfInBounds_toArray, List.set_cons_zero, List.set_cons_succ]
      refine rgx_q (v := ?_) (some 15) 5 (by kernel_rfl) rfl rfl (by rfl) (fun w' hw K hK => ?_) ?_
      rotate_left
      · go_simp
        refine (HM2.out _).mono ?_
        rintro e w'' ⟨rfl, rfl⟩
        exact hK
      try simp only [Act.put, List.setIfInBounds_toArray, List.set_cons_zero, List.set_cons_succ]
      refine rgx_t (v := ?_) (some 16) 6 (by kernel_rfl) rfl rfl (.inl ⟨by rfl, fun w' q => ?_⟩) ?_
      rotate_left
      · go_simp <;> with_reducible rfl
      try simp only [Act.put, List.setIfInBounds_toArray, List.set_cons_zero, List.set_cons_succ]
      refine rgx_1 7 (by kernel_rfl) ?_
      refine ⟨_, rfl, by rfl, fun K hK => ?_⟩
      obtain ⟨q4, z4, l4⟩ := HX.out
      go_simp
      have hBn : Box (x2.setCell ⟨w.heap.size, 0, none⟩ (.int .i64 y1)) w.heap.size #[.int .i64 y1, .int .i64 m2] := HX.out.set (k := 0) (v := .int .i64 y1) (by simp) rfl
      have hg := one_set (one_refl x2 w.heap.size) 0 (.int .i64 y1)
      have hRn := (HRa.out.off_row hg (Nat.le_refl _) (fun b off hA hh => HNE.out b off hA (by injection hh))).more hg.size
      have hgr := HB.out.setCell (p := ⟨w.heap.size, 0, none⟩) (Nat.le_refl _) (.int .i64 y1)
      have hm : Mem (fun b => True) x2 (x2.setCell ⟨w.heap.size, 0, none⟩ (.int .i64 y1)) := (Mem.refl _ _).of_set trivial
      obtain ⟨x3, hW⟩ : ∃ W, (x2.setCell ⟨w.heap.size, 0, none⟩ (.int .i64 y1)) = W := ⟨_, rfl⟩
      rw [hW] at hBn hRn hgr hm ⊢
      have HX := Lib.hid hBn
      have HRa := Lib.hid hRn
      have HB := Lib.hid hgr
      refine hK (fun b => True) _ _ (fun b h => .inl h) hm ?_
      clear q4 z4 l4 hg hm hW hBn hRn hgr
      clear hK K
      try simp only [Act.put, List.setIfInBounds_toArray, List.set_cons_zero, List.set_cons_succ]
      refine rgx_t (v := ?_) (some 17) 8 (by kernel_rfl) rfl rfl (.inl ⟨by rfl, fun w' q => ?_⟩) ?_
      rotate_left
      · go_simp <;> with_reducible rfl
      try simp only [Act.put, List.setIfInBounds_toArray, List.set_cons_zero, List.set_cons_succ]
      refine rgx_1 9 (by kernel_rfl) ?_
      refine ⟨_, rfl, by rfl, fun K hK => ?_⟩
      obtain ⟨q4, z4, l4⟩ := HX.out
      go_simp
      have hBn : Box (x3.setCell ⟨w.heap.size, 1, none⟩ (.int .i64 y2)) w.heap.size #[.int .i64 y1, .int .i64 y2] := HX.out.set (k := 1) (v := .int .i64 y2) (by simp) rfl
      have hg := one_set (one_refl x3 w.heap.size) 1 (.int .i64 y2)
      have hRn := (HRa.out.off_row hg (Nat.le_refl _) (fun b off hA hh => HNE.out b off hA (by injection hh))).more hg.size
      have hgr := HB.out.setCell (p := ⟨w.heap.size, 1, none⟩) (Nat.le_refl _) (.int .i64 y2)
      have hm : Mem (fun b => True) x3 (x3.setCell ⟨w.heap.size, 1, none⟩ (.int .i64 y2)) := (Mem.refl _ _).of_set trivial
      obtain ⟨x4, hW⟩ : ∃ W, (x3.setCell ⟨w.heap.size, 1, none⟩ (.int .i64 y2)) = W := ⟨_, rfl⟩
      rw [hW] at hBn hRn hgr hm ⊢
      have HX := Lib.hid hBn
      have HRa := Lib.hid hRn
      have HB := Lib.hid hgr
      refine hK (fun b => True) _ _ (fun b h => .inl h) hm ?_
      clear q4 z4 l4 hg hm hW hBn hRn hgr
      clear hK K
      try simp only [Act.put, List.setIfInBounds_toArray, List.set_cons_zero, List.set_cons_succ]
      refine rgx_d (by kernel_rfl) ?_
      go_wp2_with fail
      go_meet
      case rel => exact ⟨HX.out, HRa.out, HB.out⟩
  case rest =>
    obtain ⟨hX3, hR3, hB3⟩ := hcut
    obtain ⟨W0, hW0⟩ : ∃ W, W = wc := ⟨_, rfl⟩
    subst hW0
    obtain ⟨z, zz, zl⟩ := hX3
    have HX0 := Lib.hid (show Box W0.drew w.heap.size #[.int .i64 y1, .int .i64 y2] from ⟨z, zz, zl⟩)
    have HR0 := Lib.hid (show Rd W0.drew W0.drew.heap.size 2 Aa C.length (rgCells C) from hR3)
    have HB0 := Lib.hid (show Below w.heap.size w W0.drew from below_drew hB3)
    have z0 : W0.cell? ⟨w.heap.size, 0, none⟩ = some (.int .i64 y1) := z 0
    have z1 : W0.cell? ⟨w.heap.size, 1, none⟩ = some (.int .i64 y2) := z 1
    have hcl2 := hcl
    clear hR3 hB3 z HRa HB HX1 HNE
    obtain ⟨T, hT⟩ : ∃ T, closeTo (clipF (y1, y2) (openF C) N) N = T := ⟨_, rfl⟩
    have HTL := Lib.hid (show T.length ≤ 65536 by rw [← hT]; exact Nat.le_trans (closeTo_len _ _) (by have := HN.out; omega))
    have HCLIP := Lib.hid (fun (W : World) (h : Rd W W.heap.size 2 Aa C.length (rgCells C)) => show Calls Try.prog 22 #[.slice Aa C.length ca, .agg #[.int .i64 y1, .int .i64 y2]] W (RetR W T) from hT ▸ clip_any C Aa _ ca _ N (y1, y2) W h (by omega) HN.out ⟨by simp only; omega, by simp only; omega⟩ ⟨by simp only; omega, by simp only; omega⟩)
    obtain ⟨s, hs⟩ : ∃ s, sumL (setL T) = s := ⟨_, rfl⟩
    have HS := Lib.hid hs
    have hok : okR 0 (y1, y2) = (decide (1 ≤ y2) && decide (y1 ≤ 65536 - y2)) := by
      rw [Bool.eq_iff_iff, okR_iff, Bool.and_eq_true, decide_eq_true_eq, decide_eq_true_eq]
      simp only
      omega
    have hcc : okR 0 (y1, y2) = true → covB C (y1, y2) = (s == y2) := fun h => by rw [HCC.out h, hT, hs]
    obtain ⟨r, hcv⟩ : ∃ r, covB C (y1, y2) = r := ⟨_, rfl⟩
    have HCOV := Lib.hid (fun (W : World) (h : Rd W W.heap.size 2 Aa C.length (rgCells C)) => show Calls Try.prog 27 #[.slice Aa C.length ca, .agg #[.int .i64 y1, .int .i64 y2]] W (fun e w' => e = .returned (.bool r) ∧ Below W.heap.size W w') from covers_any C Aa _ ca _ (y1, y2) W h (by omega) r hcv)
    have hcase : (decide (1 ≤ y2) = true ∧ decide (y1 ≤ 65536 - y2) = true ∧ (s == y2) = r) ∨ (decide (1 ≤ y2) = true ∧ decide (y1 ≤ 65536 - y2) = false ∧ r = false) ∨ (decide (1 ≤ y2) = false ∧ r = false) := by
      by_cases h1 : 1 ≤ y2
      · by_cases h2 : y1 ≤ 65536 - y2
        · left; exact ⟨by simpa using h1, by simpa using h2, by rw [← hcv]; exact (hcc (by rw [hok]; simp [h1, h2])).symm⟩
        · right; left; exact ⟨by simpa using h1, by simpa using h2, by rw [← hcv, covB, hok]; simp [h2]⟩
      · right; right; exact ⟨by simpa using h1, by rw [← hcv, covB, hok]; simp [h1]⟩
    clear hT hs hok hcc hcv HCC
    have e1 : (r == r) = true := by simp
    rcases hcase with ⟨d1, d2, d3⟩ | ⟨d1, d2, rfl⟩ | ⟨d1, rfl⟩
    · go_wp2_with fail
      refine rg_start (by kernel_rfl) ?_
      refine rg_c 0 (by kernel_rfl) rfl (by rfl) (fun K hK => ?_)
      go_simp
      refine (awake_any _).mono ?_
      rintro e w2 ⟨rfl, hb2⟩
      have HR2 := Lib.hid ((HR0.out.below hb2 (Nat.le_refl _)).more hb2.size)
      have HX2 := Lib.hid (HX0.out.below hb2)
      have HB2 := Lib.hid (ext_trans HB0.out hb2)
      obtain ⟨t, tz, tl⟩ := HX2.out
      have t0 : w2.cell? ⟨w.heap.size, 0, none⟩ = some (.int .i64 y1) := t 0
      have t1 : w2.cell? ⟨w.heap.size, 1, none⟩ = some (.int .i64 y2) := t 1
      clear t tz
      refine hK _ _ hb2 ?_
      clear hb2
      clear hK K
      try simp only [Act.put, List.setIfInBounds_toArray, List.set_cons_zero, List.set_cons_succ]
      refine rg_t (v := ?_) (some 30) 1 (by kernel_rfl) rfl rfl (.inl ⟨by rfl, fun w' hw q => ?_⟩) ?_
      rotate_left
      · go_simp <;> with_reducible rfl
      try simp only [Act.put, List.setIfInBounds_toArray, List.set_cons_zero, List.set_cons_succ]
      refine rg_t (v := ?_) (some 31) 2 (by kernel_rfl) rfl rfl (.inl ⟨by rfl, fun w' hw q => ?_⟩) ?_
      rotate_left
      · go_simp <;> with_reducible rfl
      try simp only [Act.put, List.setIfInBounds_toArray, List.set_cons_zero, List.set_cons_succ]
      refine rg_t (v := ?_) (some 32) 3 (by kernel_rfl) rfl rfl (.inl ⟨by rfl, fun w' hw q => ?_⟩) ?_
      rotate_left
      · go_simp <;> with_reducible rfl
      try simp only [Act.put, List.setIfInBounds_toArray, List.set_cons_zero, List.set_cons_succ]
      refine rg_t (v := ?_) (some 34) 5 (by kernel_rfl) rfl rfl (.inl ⟨by rfl, fun w' hw q => ?_⟩) ?_
      rotate_left
      · go_simp <;> with_reducible rfl
      try simp only [Act.put, List.setIfInBounds_toArray, List.set_cons_zero, List.set_cons_succ]
      refine rg_c 4 (by kernel_rfl) rfl (by rfl) (fun K hK => ?_)
      go_simp
      refine (HCOV.out _ HR2.out).mono ?_
      rintro e w3 ⟨rfl, hb3⟩
      have HR3 := Lib.hid ((HR2.out.below hb3 (Nat.le_refl _)).more hb3.size)
      have HB3 := Lib.hid (ext_trans HB2.out hb3)
      have HX3 := Lib.hid (HX2.out.below hb3)
      obtain ⟨t, tz3, tl3⟩ := HX3.out
      have t3 : w3.cell? ⟨w.heap.size, 0, none⟩ = some (.int .i64 y1) := t 0
      have t4 : w3.cell? ⟨w.heap.size, 1, none⟩ = some (.int .i64 y2) := t 1
      clear t
      refine hK _ _ hb3 ?_
      clear hb3
      clear hK K
      try simp only [Act.put, List.setIfInBounds_toArray, List.set_cons_zero, List.set_cons_succ]
      refine rg_t (v := ?_) (some 35) 6 (by kernel_rfl) rfl rfl (.inl ⟨by rfl, fun w' hw q => ?_⟩) ?_
      rotate_left
      · go_simp <;> with_reducible rfl
      try simp only [Act.put, List.setIfInBounds_toArray, List.set_cons_zero, List.set_cons_succ]
      refine rg_t (v := ?_) (some 36) 7 (by kernel_rfl) rfl rfl (.inl ⟨by rfl, fun w' hw q => ?_⟩) ?_
      rotate_left
      · go_simp <;> with_reducible rfl
      try simp only [Act.put, List.setIfInBounds_toArray, List.set_cons_zero, List.set_cons_succ]
      refine rg_t (v := ?_) (some 37) 8 (by kernel_rfl) rfl rfl (.inl ⟨by rfl, fun w' hw q => ?_⟩) ?_
      rotate_left
      · go_simp <;> with_reducible rfl
      try simp only [Act.put, List.setIfInBounds_toArray, List.set_cons_zero, List.set_cons_succ]
      refine rg_t (v := ?_) (some 40) 11 (by kernel_rfl) rfl rfl (.inl ⟨by rfl, fun w' hw q => ?_⟩) ?_
      rotate_left
      · go_simp <;> with_reducible rfl
      try simp only [Act.put, List.setIfInBounds_toArray, List.set_cons_zero, List.set_cons_succ]
      refine rg_t (v := ?_) (some 41) 12 (by kernel_rfl) rfl rfl (.inl ⟨by rfl, fun w' hw q => ?_⟩) ?_
      rotate_left
      · go_simp <;> with_reducible rfl
      try simp only [Act.put, List.setIfInBounds_toArray, List.set_cons_zero, List.set_cons_succ]
      refine rg_c 9 (by kernel_rfl) rfl (by rfl) (fun K hK => ?_)
      go_simp
      refine (HCLIP.out _ HR3.out).mono ?_
      intro e w4 h
      obtain ⟨A4, c4, rfl, _, hR4, hb4⟩ := h.open_
      have HR4 := Lib.hid hR4
      have HB4 := Lib.hid (ext_trans HB3.out hb4)
      have HX4 := Lib.hid (HX3.out.below hb4)
      refine hK _ _ hb4 ?_
      clear hb4 hR4 h
      clear hK K
      try simp only [Act.put, List.setIfInBounds_toArray, List.set_cons_zero, List.set_cons_succ]
      refine rg_c 10 (by kernel_rfl) rfl (by rfl) (fun K hK => ?_)
      go_simp
      refine (count_any T A4 _ c4 _ _ HR4.out (by have := HTL.out; omega) s HS.out).mono ?_
      rintro e w5 ⟨rfl, hb5⟩
      have HB5 := Lib.hid (ext_trans HB4.out hb5)
      obtain ⟨t, tz, tl5⟩ := HX4.out.below hb5
      have t5 : w5.cell? ⟨w.heap.size, 0, none⟩ = some (.int .i64 y1) := t 0
      have t6 : w5.cell? ⟨w.heap.size, 1, none⟩ = some (.int .i64 y2) := t 1
      clear t tz
      refine hK _ _ hb5 ?_
      clear hb5
      clear hK K
      try simp only [Act.put, List.setIfInBounds_toArray, List.set_cons_zero, List.set_cons_succ]
      refine rg_t (v := ?_) (some 42) 13 (by kernel_rfl) rfl rfl (.inl ⟨by rfl, fun w' hw q => ?_⟩) ?_
      rotate_left
      · go_simp <;> with_reducible rfl
      try simp only [Act.put, List.setIfInBounds_toArray, List.set_cons_zero, List.set_cons_succ]
      refine rg_t (v := ?_) (some 43) 14 (by kernel_rfl) rfl rfl (.inl ⟨by rfl, fun w' hw q => ?_⟩) ?_
      rotate_left
      · go_simp <;> with_reducible rfl
      try simp only [Act.put, List.setIfInBounds_toArray, List.set_cons_zero, List.set_cons_succ]
      refine rg_t (v := ?_) (some 44) 15 (by kernel_rfl) rfl rfl (.inl ⟨by rfl, fun w' hw q => ?_⟩) ?_
      rotate_left
      · go_simp <;> with_reducible rfl
      try simp only [Act.put, List.setIfInBounds_toArray, List.set_cons_zero, List.set_cons_succ]
      refine rg_t (v := ?_) (some 45) 16 (by kernel_rfl) rfl rfl (.inl ⟨by rfl, fun w' hw q => ?_⟩) ?_
      rotate_left
      · go_simp <;> with_reducible rfl
      try simp only [Act.put, List.setIfInBounds_toArray, List.set_cons_zero, List.set_cons_succ]
      refine rg_t (v := ?_) (some 4) 17 (by kernel_rfl) rfl rfl (.inl ⟨by rfl, fun w' hw q => ?_⟩) ?_
      rotate_left
      · go_simp <;> with_reducible rfl
      try simp only [Act.put, List.setIfInBounds_toArray, List.set_cons_zero, List.set_cons_succ]
      refine rg_d (by kernel_rfl) ?_
      go_wp2
      go_ret
      exact ⟨by trivial, HB5.out⟩
    · go_wp2_with fail
      refine rg_start (by kernel_rfl) ?_
      refine rg_c 0 (by kernel_rfl) rfl (by rfl) (fun K hK => ?_)
      go_simp
      refine (awake_any _).mono ?_
      rintro e w2 ⟨rfl, hb2⟩
      have HR2 := Lib.hid ((HR0.out.below hb2 (Nat.le_refl _)).more hb2.size)
      have HX2 := Lib.hid (HX0.out.below hb2)
      have HB2 := Lib.hid (ext_trans HB0.out hb2)
      obtain ⟨t, tz, tl⟩ := HX2.out
      have t0 : w2.cell? ⟨w.heap.size, 0, none⟩ = some (.int .i64 y1) := t 0
      have t1 : w2.cell? ⟨w.heap.size, 1, none⟩ = some (.int .i64 y2) := t 1
      clear t tz
      refine hK _ _ hb2 ?_
      clear hb2
      clear hK K
      try simp only [Act.put, List.setIfInBounds_toArray, List.set_cons_zero, List.set_cons_succ]
      refine rg_t (v := ?_) (some 30) 1 (by kernel_rfl) rfl rfl (.inl ⟨by rfl, fun w' hw q => ?_⟩) ?_
      rotate_left
      · go_simp <;> with_reducible rfl
      try simp only [Act.put, List.setIfInBounds_toArray, List.set_cons_zero, List.set_cons_succ]
      refine rg_t (v := ?_) (some 31) 2 (by kernel_rfl) rfl rfl (.inl ⟨by rfl, fun w' hw q => ?_⟩) ?_
      rotate_left
      · go_simp <;> with_reducible rfl
      try simp only [Act.put, List.setIfInBounds_toArray, List.set_cons_zero, List.set_cons_succ]
      refine rg_t (v := ?_) (some 32) 3 (by kernel_rfl) rfl rfl (.inl ⟨by rfl, fun w' hw q => ?_⟩) ?_
      rotate_left
      · go_simp <;> with_reducible rfl
      try simp only [Act.put, List.setIfInBounds_toArray, List.set_cons_zero, List.set_cons_succ]
      refine rg_t (v := ?_) (some 34) 5 (by kernel_rfl) rfl rfl (.inl ⟨by rfl, fun w' hw q => ?_⟩) ?_
      rotate_left
      · go_simp <;> with_reducible rfl
      try simp only [Act.put, List.setIfInBounds_toArray, List.set_cons_zero, List.set_cons_succ]
      refine rg_c 4 (by kernel_rfl) rfl (by rfl) (fun K hK => ?_)
      go_simp
      refine (HCOV.out _ HR2.out).mono ?_
      rintro e w3 ⟨rfl, hb3⟩
      have HB3 := Lib.hid (ext_trans HB2.out hb3)
      refine hK _ _ hb3 ?_
      clear hb3
      clear hK K
      try simp only [Act.put, List.setIfInBounds_toArray, List.set_cons_zero, List.set_cons_succ]
      refine rg_t (v := ?_) (some 35) 6 (by kernel_rfl) rfl rfl (.inl ⟨by rfl, fun w' hw q => ?_⟩) ?_
      rotate_left
      · go_simp <;> with_reducible rfl
      try simp only [Act.put, List.setIfInBounds_toArray, List.set_cons_zero, List.set_cons_succ]
      refine rg_t (some 36) 7 (by kernel_rfl) rfl rfl (.inr ⟨by rfl, rfl⟩) ?_
      try simp only [Act.put, List.setIfInBounds_toArray, List.set_cons_zero, List.set_cons_succ]
      refine rg_t (some 37) 8 (by kernel_rfl) rfl rfl (.inr ⟨by rfl, rfl⟩) ?_
      try simp only [Act.put, List.setIfInBounds_toArray, List.set_cons_zero, List.set_cons_succ]
      refine rg_t (some 38) 9 (by kernel_rfl) rfl rfl (.inr ⟨by rfl, rfl⟩) ?_
      try simp only [Act.put, List.setIfInBounds_toArray, List.set_cons_zero, List.set_cons_succ]
      refine rg_t (some 39) 10 (by kernel_rfl) rfl rfl (.inr ⟨by rfl, rfl⟩) ?_
      try simp only [Act.put, List.setIfInBounds_toArray, List.set_cons_zero, List.set_cons_succ]
      refine rg_t (some 40) 11 (by kernel_rfl) rfl rfl (.inr ⟨by rfl, rfl⟩) ?_
      try simp only [Act.put, List.setIfInBounds_toArray, List.set_cons_zero, List.set_cons_succ]
      refine rg_t (some 41) 12 (by kernel_rfl) rfl rfl (.inr ⟨by rfl, rfl⟩) ?_
      try simp only [Act.put, List.setIfInBounds_toArray, List.set_cons_zero, List.set_cons_succ]
      refine rg_t (some 42) 13 (by kernel_rfl) rfl rfl (.inr ⟨by rfl, rfl⟩) ?_
      try simp only [Act.put, List.setIfInBounds_toArray, List.set_cons_zero, List.set_cons_succ]
      refine rg_t (v := ?_) (some 43) 14 (by kernel_rfl) rfl rfl (.inl ⟨by rfl, fun w' hw q => ?_⟩) ?_
      rotate_left
      · go_simp <;> with_reducible rfl
      try simp only [Act.put, List.setIfInBounds_toArray, List.set_cons_zero, List.set_cons_succ]
      refine rg_t (v := ?_) (some 44) 15 (by kernel_rfl) rfl rfl (.inl ⟨by rfl, fun w' hw q => ?_⟩) ?_
      rotate_left
      · go_simp <;> with_reducible rfl
      try simp only [Act.put, List.setIfInBounds_toArray, List.set_cons_zero, List.set_cons_succ]
      refine rg_t (v := ?_) (some 45) 16 (by kernel_rfl) rfl rfl (.inl ⟨by rfl, fun w' hw q => ?_⟩) ?_
      rotate_left
      · go_simp <;> with_reducible rfl
      try simp only [Act.put, List.setIfInBounds_toArray, List.set_cons_zero, List.set_cons_succ]
      refine rg_t (v := ?_) (some 4) 17 (by kernel_rfl) rfl rfl (.inl ⟨by rfl, fun w' hw q => ?_⟩) ?_
      rotate_left
      · go_simp <;> with_reducible rfl
      try simp only [Act.put, List.setIfInBounds_toArray, List.set_cons_zero, List.set_cons_succ]
      refine rg_d (by kernel_rfl) ?_
      go_wp2
      go_ret
      exact ⟨by trivial, HB3.out⟩
    · go_wp2_with fail
      refine rg_start (by kernel_rfl) ?_
      refine rg_c 0 (by kernel_rfl) rfl (by rfl) (fun K hK => ?_)
      go_simp
      refine (awake_any _).mono ?_
      rintro e w2 ⟨rfl, hb2⟩
      have HR2 := Lib.hid ((HR0.out.below hb2 (Nat.le_refl _)).more hb2.size)
      have HX2 := Lib.hid (HX0.out.below hb2)
      have HB2 := Lib.hid (ext_trans HB0.out hb2)
      obtain ⟨t, tz, tl⟩ := HX2.out
      have t0 : w2.cell? ⟨w.heap.size, 0, none⟩ = some (.int .i64 y1) := t 0
      have t1 : w2.cell? ⟨w.heap.size, 1, none⟩ = some (.int .i64 y2) := t 1
      clear t tz
      refine hK _ _ hb2 ?_
      clear hb2
      clear hK K
      try simp only [Act.put, List.setIfInBounds_toArray, List.set_cons_zero, List.set_cons_succ]
      refine rg_t (v := ?_) (some 30) 1 (by kernel_rfl) rfl rfl (.inl ⟨by rfl, fun w' hw q => ?_⟩) ?_
      rotate_left
      · go_simp <;> with_reducible rfl
      try simp only [Act.put, List.setIfInBounds_toArray, List.set_cons_zero, List.set_cons_succ]
      refine rg_t (v := ?_) (some 31) 2 (by kernel_rfl) rfl rfl (.inl ⟨by rfl, fun w' hw q => ?_⟩) ?_
      rotate_left
      · go_simp <;> with_reducible rfl
      try simp only [Act.put, List.setIfInBounds_toArray, List.set_cons_zero, List.set_cons_succ]
      refine rg_t (v := ?_) (some 32) 3 (by kernel_rfl) rfl rfl (.inl ⟨by rfl, fun w' hw q => ?_⟩) ?_
      rotate_left
      · go_simp <;> with_reducible rfl
      try simp only [Act.put, List.setIfInBounds_toArray, List.set_cons_zero, List.set_cons_succ]
      refine rg_t (v := ?_) (some 34) 5 (by kernel_rfl) rfl rfl (.inl ⟨by rfl, fun w' hw q => ?_⟩) ?_
      rotate_left
      · go_simp <;> with_reducible rfl
      try simp only [Act.put, List.setIfInBounds_toArray, List.set_cons_zero, List.set_cons_succ]
      refine rg_c 4 (by kernel_rfl) rfl (by rfl) (fun K hK => ?_)
      go_simp
      refine (HCOV.out _ HR2.out).mono ?_
      rintro e w3 ⟨rfl, hb3⟩
      have HB3 := Lib.hid (ext_trans HB2.out hb3)
      refine hK _ _ hb3 ?_
      clear hb3
      clear hK K
      try simp only [Act.put, List.setIfInBounds_toArray, List.set_cons_zero, List.set_cons_succ]
      refine rg_t (v := ?_) (some 35) 6 (by kernel_rfl) rfl rfl (.inl ⟨by rfl, fun w' hw q => ?_⟩) ?_
      rotate_left
      · go_simp <;> with_reducible rfl
      try simp only [Act.put, List.setIfInBounds_toArray, List.set_cons_zero, List.set_cons_succ]
      refine rg_t (some 36) 7 (by kernel_rfl) rfl rfl (.inr ⟨by rfl, rfl⟩) ?_
      try simp only [Act.put, List.setIfInBounds_toArray, List.set_cons_zero, List.set_cons_succ]
      refine rg_t (some 37) 8 (by kernel_rfl) rfl rfl (.inr ⟨by rfl, rfl⟩) ?_
      try simp only [Act.put, List.setIfInBounds_toArray, List.set_cons_zero, List.set_cons_succ]
      refine rg_t (some 38) 9 (by kernel_rfl) rfl rfl (.inr ⟨by rfl, rfl⟩) ?_
      try simp only [Act.put, List.setIfInBounds_toArray, List.set_cons_zero, List.set_cons_succ]
      refine rg_t (some 39) 10 (by kernel_rfl) rfl rfl (.inr ⟨by rfl, rfl⟩) ?_
      try simp only [Act.put, List.setIfInBounds_toArray, List.set_cons_zero, List.set_cons_succ]
      refine rg_t (some 40) 11 (by kernel_rfl) rfl rfl (.inr ⟨by rfl, rfl⟩) ?_
      try simp only [Act.put, List.setIfInBounds_toArray, List.set_cons_zero, List.set_cons_succ]
      refine rg_t (some 41) 12 (by kernel_rfl) rfl rfl (.inr ⟨by rfl, rfl⟩) ?_
      try simp only [Act.put, List.setIfInBounds_toArray, List.set_cons_zero, List.set_cons_succ]
      refine rg_t (some 42) 13 (by kernel_rfl) rfl rfl (.inr ⟨by rfl, rfl⟩) ?_
      try simp only [Act.put, List.setIfInBounds_toArray, List.set_cons_zero, List.set_cons_succ]
      refine rg_t (v := ?_) (some 43) 14 (by kernel_rfl) rfl rfl (.inl ⟨by rfl, fun w' hw q => ?_⟩) ?_
      rotate_left
      · go_simp <;> with_reducible rfl
      try simp only [Act.put, List.setIfInBounds_toArray, List.set_cons_zero, List.set_cons_succ]
      refine rg_t (v := ?_) (some 44) 15 (by kernel_rfl) rfl rfl (.inl ⟨by rfl, fun w' hw q => ?_⟩) ?_
      rotate_left
      · go_simp <;> with_reducible rfl
      try simp only [Act.put, List.setIfInBounds_toArray, List.set_cons_zero, List.set_cons_succ]
      refine rg_t (v := ?_) (some 45) 16 (by kernel_rfl) rfl rfl (.inl ⟨by rfl, fun w' hw q => ?_⟩) ?_
      rotate_left
      · go_simp <;> with_reducible rfl
      try simp only [Act.put, List.setIfInBounds_toArray, List.set_cons_zero, List.set_cons_succ]
      refine rg_t (v := ?_) (some 4) 17 (by kernel_rfl) rfl rfl (.inl ⟨by rfl, fun w' hw q => ?_⟩) ?_
      rotate_left
      · go_simp <;> with_reducible rfl
      try simp only [Act.put, List.setIfInBounds_toArray, List.set_cons_zero, List.set_cons_succ]
      refine rg_d (by kernel_rfl) ?_
      go_wp2
      go_ret
      exact ⟨by trivial, HB3.out⟩
end Go.Proofs.Ytebeaghombjooaa

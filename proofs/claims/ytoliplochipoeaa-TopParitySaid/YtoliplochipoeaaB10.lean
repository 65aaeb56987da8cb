import Derived.Deep.DeepCutAuto
import Derived.Test.YtoliplochipoeaaB9
/- Layer 19: judged. -/
set_option linter.unusedVariables false
set_option linter.unusedSimpArgs false
namespace Go.Proofs.Ytoliplochipoeaa
open Go.RowKit

theorem sinfo : (Try.prog.info? 3).map (fun i => (i.zero, i.size, i.bytes)) = some (some (.int .i64 0), 1, 8) := by kernel_rfl
abbrev zeroOc (v : Int) : Value := .agg #[.int .i64 v, .int .i64 0, .int .i64 0, .slice none 0 0, .int .i64 0, .int .i64 0, .bool false, .int .i64 0, .slice none 0 0]
def maxZ (a b : Int) : Int := max a b
def LJudged (w : World) (g : Nat) (k : Lk) (n : Nat) (xs : List Int) (v : Int) (e : Ending) (w' : World) : Prop :=
  ∃ A c, e = .returned (.tuple #[]) ∧ LB (fun i => i = g ∨ some i = k.sn.ownBlock) w w' g { k with sn := .slice A (n + 1) c, unt := maxZ k.unt (k.en + k.D), ph := 4 } ∧
    w'.ownsRow (g + 1) 3 1 (.slice A (n + 1) c) (n + 1) (i64s (xs ++ [v])) ∧ OwnNext w k.sn (.slice A (n + 1) c)
set_option maxRecDepth 100000 in
set_option maxHeartbeats 8000000 in
theorem judged_no (k : Lk) (g : Nat) (A : Option Addr) (n c : Nat) (xs : List Int) (v : Int) (w : World) (hB : Box w g (lkCells k)) (hsn : k.sn = .slice A n c) (hown : w.ownsRow (g + 1) 3 1 (.slice A n c) n (i64s xs)) (hv : 3 ≤ v) (hn : n ≤ 1000)
    (hE : 0 ≤ k.en ∧ k.en ≤ 1152921504606846976) (hD : 0 ≤ k.D ∧ k.D ≤ 100000000) :
    Calls Try.prog 63 #[iptr g, zeroOc v] w (LJudged w g k n xs v) := by
  have e1 : (v == 1) = false := by simp; omega
  have e2 : (v == 2) = false := by simp; omega
  have e3 : IntKind.i64.wrap (k.en + k.D) = k.en + k.D := IntWalk.i64_in _ ⟨by omega, by omega⟩
  have h0 : LB (fun i => i = g ∨ some i = k.sn.ownBlock) w (w.alloc (.cells #[.int .i64 v, .int .i64 0, .int .i64 0, .slice none 0 0, .int .i64 0, .int .i64 0, .bool false, .int .i64 0, .slice none 0 0] 58)) g k := ⟨hB.alloc' _, ChX.of_below ((Below.refl _ _).alloc (Nat.le_refl _) _)⟩
  have HBs := Lib.hid (Box.alloc_ (w := w) (cs := #[.int .i64 v, .int .i64 0, .int .i64 0, .slice none 0 0, .int .i64 0, .int .i64 0, .bool false, .int .i64 0, .slice none 0 0]) (e := 58))
  have how := hown.alloc (.cells #[.int .i64 v, .int .i64 0, .int .i64 0, .slice none 0 0, .int .i64 0, .int .i64 0, .bool false, .int .i64 0, .slice none 0 0] 58)
  have hgs := hB.2.2
  obtain ⟨rw1, hrw⟩ : ∃ r, (Value.slice A n c).ownBlock = r := ⟨_, rfl⟩
  have hrl : ∀ b, rw1 = some b → g < b ∧ b < w.heap.size := fun b hb => by
    have h1 := hown.lt b (by rw [hrw]; exact hb)
    exact ⟨by omega, h1.2⟩
  have HRL := Lib.hid hrl
  have HSN := Lib.hid hsn
  have HE := Lib.hid (And.intro hE hD)
  have HMX := Lib.hid (show (if k.unt < k.en + k.D then k.en + k.D else k.unt) = maxZ k.unt (k.en + k.D) by unfold maxZ; split <;> omega)
  clear hE hD hB hown hrl hv
  go_enter Try.func63, Try.ntmps63
  go_upto_region 1 with fail
  obtain ⟨w0, hw0⟩ : ∃ W, w.alloc (.cells #[.int .i64 v, .int .i64 0, .int .i64 0, .slice none 0 0, .int .i64 0, .int .i64 0, .bool false, .int .i64 0, .slice none 0 0] 58) = W := ⟨_, rfl⟩
  rw [hw0] at h0 HBs how ⊢
  obtain ⟨bs, hbs⟩ : ∃ b, w.heap.size = b := ⟨_, rfl⟩
  rw [hbs] at HBs ⊢
  have hne : ¬ (bs = g) := by omega
  have hne2 : ¬ (some bs = rw1) := fun e => by have := HRL.out bs e.symm; omega
  have HL := Lib.hid h0
  have HOW := Lib.hid how
  have HBS := Lib.hid hbs
  clear hw0 h0 hsn how hgs hbs
  obtain ⟨qs, zs, ls⟩ := HBs.out
  have s0 : w0.cell? ⟨bs, 0, none⟩ = some (.int .i64 v) := qs 0
  clear qs zs
  go_upto_region 4 with fail
  have HRW := Lib.hid hrw
  clear hrw
  go_cut [] (fun x => ∃ A2 c2, LB (fun i => i = g ∨ some i = k.sn.ownBlock) w x g { k with sn := .slice A2 (n + 1) c2 } ∧ x.ownsRow (g + 1) 3 1 (.slice A2 (n + 1) c2) (n + 1) (i64s (xs ++ [v])) ∧ OwnNext w k.sn (.slice A2 (n + 1) c2))
  case first =>
    obtain ⟨x0, hx0⟩ : ∃ x, w0.drew = x := ⟨_, rfl⟩
    have y0 : x0.cell? ⟨bs, 0, none⟩ = some (.int .i64 v) := by rw [← hx0]; exact s0
    have l0 : bs < x0.heap.size := by rw [← hx0]; exact ls
    have HL := Lib.hid (hx0 ▸ HL.out.drew)
    have HOW := Lib.hid (show x0.ownsRow (g + 1) 3 1 (.slice A n c) n (i64s xs) by rw [← hx0]; exact HOW.out.drew)
    have HBs := Lib.hid (hx0 ▸ HBs.out.drew)
    have HNE2 := Lib.hid hne2
    have HNE := Lib.hid hne
    clear s0 ls
    have hne3 : ¬ ((bs = g ∧ 0 = 19) ∨ some bs = rw1) := by rintro (h | h); exact hne h.1; exact hne2 h
    refine rgc_start (X := fun b o => (b = g ∧ o = 19) ∨ some b = rw1) (by kernel_rfl) ?_
    rw [hx0]
    refine rgc_t (v := ?_) (some 19) 0 (by kernel_rfl) rfl rfl (.inl ⟨by rfl, fun w' q => ?_⟩) ?_
    rotate_left
    · go_simp <;> with_reducible rfl
    try simp only [Act.put, List.setIfInBounds_toArray, List.set_cons_zero, List.set_cons_succ]
    refine rgc_t (v := ?_) (some 20) 1 (by kernel_rfl) rfl rfl (.inl ⟨by rfl, fun w' q => ?_⟩) ?_
    rotate_left
    · go_simp <;> with_reducible rfl
    try simp only [Act.put, List.setIfInBounds_toArray, List.set_cons_zero, List.set_cons_succ]
    refine rgc_t (v := ?_) (some 21) 2 (by kernel_rfl) rfl rfl (.inl ⟨by rfl, fun w' q => ?_⟩) ?_
    rotate_left
    · go_simp <;> with_reducible rfl
    try simp only [Act.put, List.setIfInBounds_toArray, List.set_cons_zero, List.set_cons_succ]
    refine rgc_t (v := ?_) (some 22) 3 (by kernel_rfl) rfl rfl (.inl ⟨by rfl, fun w' q => ?_⟩) ?_
    rotate_left
    · go_simp <;> with_reducible rfl
    try simp only [Act.put, List.setIfInBounds_toArray, List.set_cons_zero, List.set_cons_succ]
    refine rgc_t (v := ?_) (some 24) 5 (by kernel_rfl) rfl rfl (.inl ⟨by rfl, fun w' q => ?_⟩) ?_
    rotate_left
    · go_simp <;> with_reducible rfl
    try simp only [Act.put, List.setIfInBounds_toArray, List.set_cons_zero, List.set_cons_succ]
    refine rgc_t (v := ?_) (some 25) 6 (by kernel_rfl) rfl rfl (.inl ⟨by rfl, fun w' q => ?_⟩) ?_
    rotate_left
    · go_simp <;> with_reducible rfl
    try simp only [Act.put, List.setIfInBounds_toArray, List.set_cons_zero, List.set_cons_succ]
    refine rgc_2 4 7 (by kernel_rfl) ?_ ?_
    · refine ⟨_, rfl, by rfl, fun K hK => ?_⟩
      obtain ⟨q4, z4, l4⟩ := HL.out.1
      unfold lkCells at q4
      go_simp
      try simp only [HSN.out]
      obtain ⟨x1, hE⟩ : ∃ W : World, W = x0 := ⟨_, rfl⟩
      subst hE
      refine hK (fun b o => (b = g ∧ o = 19) ∨ some b = rw1) _ _ (fun b o h => .inl h) (MemC.refl _ _) ?_
      clear q4 z4 l4
      clear hK K
      try simp only [Act.put, List.setIfInBounds_toArray, List.set_cons_zero, List.set_cons_succ]
      refine rgc_1 7 (by kernel_rfl) ?_
      refine ⟨_, rfl, by rfl, fun K hK => ?_⟩
      go_simp
      have hb := (Below.refl x1.heap.size x1).alloc (Nat.le_refl _) (.cells #[.int .i64 v] 3)
      obtain ⟨bl, hbl2⟩ : ∃ bl, x1.heap.size = bl := ⟨_, rfl⟩
      have hRl : Rd (x1.alloc (.cells #[.int .i64 v] 3)) (bl + 1) 1 (some ⟨bl, 0, none⟩) 1 [.int .i64 v] := by rw [← hbl2]; exact Rd.lit rfl (Nat.lt_succ_self _)
      have HL := Lib.hid (HL.out.below hb)
      have how := HOW.out.alloc (.cells #[.int .i64 v] 3)
      obtain ⟨x2, hW⟩ : ∃ W, x1.alloc (.cells #[.int .i64 v] 3) = W := ⟨_, rfl⟩
      rw [hW] at HL hRl hb how ⊢
      rw [hbl2]
      refine hK (fun b o => (b = g ∧ o = 19) ∨ some b = rw1) _ _ (fun b o h => .inl h) (MemC.of_below hb) ?_
      have HRL2 := Lib.hid hRl
      have HOW := Lib.hid how
      clear hb hbl2 hRl hW how
      clear hK K
      try simp only [Act.put, List.setIfInBounds_toArray, List.set_cons_zero, List.set_cons_succ]
      refine rgc_1 8 (by kernel_rfl) ?_
      refine ⟨_, rfl, by rfl, fun K hK => ?_⟩
      refine wp_appR (.tmp 23) (.tmp 26) 61 (g + 1) 3 _ 1 8 (.slice A n c) n (i64s xs) _ ⟨bl, 0, none⟩ 1 1 [.int .i64 v] Try.underlying61 sinfo rfl (by decide) rfl rfl rfl HOW.out HRL2.out (one_ints .i64 [v]) (by omega) (by omega) (by have := HL.out.1.2.2; omega) ?_
      intro v2 x3 hown2 hg2 hn2 hb2
      obtain ⟨A2, c2, hv2, _, _⟩ := own_form hown2
      subst hv2
      have HON := Lib.hid (show OwnNext w k.sn (.slice A2 (n + 1) c2) by rw [HSN.out]; exact hn2.after HL.out.2.size)
      have hls : LB (fun i => i = g ∨ some i = k.sn.ownBlock) w x3 g k := ⟨HL.out.1.row hg2 (by rw [HRW.out]; exact fun e => by have := HRL.out g e.symm; omega), HL.out.2.grown hg2 (fun b e _ => .inr (by rw [HSN.out]; exact e.symm))⟩
      have HL := Lib.hid hls
      have HOW := Lib.hid (show (x3).ownsRow (g + 1) 3 1 (.slice A2 (n + 1) c2) (n + 1) (i64s (xs ++ [v])) by simpa using hown2)
      refine hK (fun b o => (b = g ∧ o = 19) ∨ some b = rw1) _ _ (fun b o h => .inl h) (MemC.of_grown hg2 (fun b e o => .inr (by rw [← HRW.out]; exact e.symm))) ?_
      clear hown2 hg2 hn2 hb2 hls
      clear hK K
      try simp only [Act.put, List.setIfInBounds_toArray, List.set_cons_zero, List.set_cons_succ]
      refine rgc_t (v := ?_) (some 28) 9 (by kernel_rfl) rfl rfl (.inl ⟨by rfl, fun w' q => ?_⟩) ?_
      rotate_left
      · go_simp <;> with_reducible rfl
      try simp only [Act.put, List.setIfInBounds_toArray, List.set_cons_zero, List.set_cons_succ]
      refine rgc_t (v := ?_) (some 29) 10 (by kernel_rfl) rfl rfl (.inl ⟨by rfl, fun w' q => ?_⟩) ?_
      rotate_left
      · go_simp <;> with_reducible rfl
      try simp only [Act.put, List.setIfInBounds_toArray, List.set_cons_zero, List.set_cons_succ]
      refine rgc_1 11 (by kernel_rfl) ?_
      refine ⟨_, rfl, by rfl, fun K hK => ?_⟩
      obtain ⟨q4, z4, l4⟩ := HL.out.1
      unfold lkCells at q4
      go_simp
      have hLs := HL.out.sSn (.inl rfl) (.slice A2 (n + 1) c2)
      have hm : MemC (fun b o => (b = g ∧ o = 19) ∨ some b = rw1) x3 (x3.setCell ⟨g, 19, none⟩ (.slice A2 (n + 1) c2)) := (MemC.refl (fun b o => (b = g ∧ o = 19) ∨ some b = rw1) x3).of_set (.inl ⟨rfl, rfl⟩)
      have how := own_chx HOW.out (ChX.of_set (X := fun i => i = g) (g := g) (k := 19) (v := .slice A2 (n + 1) c2) rfl) (fun b hb e => by have h1 := (HOW.out.lt b hb).1; have h2 : b = g := e; omega)
      obtain ⟨x4, hW⟩ : ∃ W, (x3.setCell ⟨g, 19, none⟩ (.slice A2 (n + 1) c2)) = W := ⟨_, rfl⟩
      rw [hW] at hLs hm how ⊢
      refine hK (fun b o => (b = g ∧ o = 19) ∨ some b = rw1) _ _ (fun b o h => .inl h) hm ?_
      have HL := Lib.hid hLs
      have HOW := Lib.hid how
      clear q4 z4 l4 hm hLs hW how
      clear hK K
      try simp only [Act.put, List.setIfInBounds_toArray, List.set_cons_zero, List.set_cons_succ]
      refine rgc_d (by kernel_rfl) ?_
      go_wp2_with fail
      go_meet
      case rel => exact ⟨A2, c2, HL.out, HOW.out, HON.out⟩
    · refine ⟨_, rfl, by rfl, fun K hK => ?_⟩
      go_simp
      have hb := (Below.refl x0.heap.size x0).alloc (Nat.le_refl _) (.cells #[.int .i64 v] 3)
      obtain ⟨bl, hbl2⟩ : ∃ bl, x0.heap.size = bl := ⟨_, rfl⟩
      have hRl : Rd (x0.alloc (.cells #[.int .i64 v] 3)) (bl + 1) 1 (some ⟨bl, 0, none⟩) 1 [.int .i64 v] := by rw [← hbl2]; exact Rd.lit rfl (Nat.lt_succ_self _)
      have HL := Lib.hid (HL.out.below hb)
      have how := HOW.out.alloc (.cells #[.int .i64 v] 3)
      obtain ⟨x1, hW⟩ : ∃ W, x0.alloc (.cells #[.int .i64 v] 3) = W := ⟨_, rfl⟩
      rw [hW] at HL hRl hb how ⊢
      rw [hbl2]
      refine hK (fun b o => (b = g ∧ o = 19) ∨ some b = rw1) _ _ (fun b o h => .inl h) (MemC.of_below hb) ?_
      have HRL2 := Lib.hid hRl
      have HOW := Lib.hid how
      clear hb hbl2 hRl hW how
      clear hK K
      try simp only [Act.put, List.setIfInBounds_toArray, List.set_cons_zero, List.set_cons_succ]
      refine rgc_1 4 (by kernel_rfl) ?_
      refine ⟨_, rfl, by rfl, fun K hK => ?_⟩
      obtain ⟨q4, z4, l4⟩ := HL.out.1
      unfold lkCells at q4
      go_simp
      try simp only [HSN.out]
      obtain ⟨x2, hE⟩ : ∃ W : World, W = x1 := ⟨_, rfl⟩
      subst hE
      refine hK (fun b o => (b = g ∧ o = 19) ∨ some b = rw1) _ _ (fun b o h => .inl h) (MemC.refl _ _) ?_
      clear q4 z4 l4
      clear hK K
      try simp only [Act.put, List.setIfInBounds_toArray, List.set_cons_zero, List.set_cons_succ]
      refine rgc_1 8 (by kernel_rfl) ?_
      refine ⟨_, rfl, by rfl, fun K hK => ?_⟩
      refine wp_appR (.tmp 23) (.tmp 26) 61 (g + 1) 3 _ 1 8 (.slice A n c) n (i64s xs) _ ⟨bl, 0, none⟩ 1 1 [.int .i64 v] Try.underlying61 sinfo rfl (by decide) rfl rfl rfl HOW.out HRL2.out (one_ints .i64 [v]) (by omega) (by omega) (by have := HL.out.1.2.2; omega) ?_
      intro v2 x3 hown2 hg2 hn2 hb2
      obtain ⟨A2, c2, hv2, _, _⟩ := own_form hown2
      subst hv2
      have HON := Lib.hid (show OwnNext w k.sn (.slice A2 (n + 1) c2) by rw [HSN.out]; exact hn2.after HL.out.2.size)
      have hls : LB (fun i => i = g ∨ some i = k.sn.ownBlock) w x3 g k := ⟨HL.out.1.row hg2 (by rw [HRW.out]; exact fun e => by have := HRL.out g e.symm; omega), HL.out.2.grown hg2 (fun b e _ => .inr (by rw [HSN.out]; exact e.symm))⟩
      have HL := Lib.hid hls
      have HOW := Lib.hid (show (x3).ownsRow (g + 1) 3 1 (.slice A2 (n + 1) c2) (n + 1) (i64s (xs ++ [v])) by simpa using hown2)
      refine hK (fun b o => (b = g ∧ o = 19) ∨ some b = rw1) _ _ (fun b o h => .inl h) (MemC.of_grown hg2 (fun b e o => .inr (by rw [← HRW.out]; exact e.symm))) ?_
      clear hown2 hg2 hn2 hb2 hls
      clear hK K
      try simp only [Act.put, List.setIfInBounds_toArray, List.set_cons_zero, List.set_cons_succ]
      refine rgc_t (v := ?_) (some 28) 9 (by kernel_rfl) rfl rfl (.inl ⟨by rfl, fun w' q => ?_⟩) ?_
      rotate_left
      · go_simp <;> with_reducible rfl
      try simp only [Act.put, List.setIfInBounds_toArray, List.set_cons_zero, List.set_cons_succ]
      refine rgc_t (v := ?_) (some 29) 10 (by kernel_rfl) rfl rfl (.inl ⟨by rfl, fun w' q => ?_⟩) ?_
      rotate_left
      · go_simp <;> with_reducible rfl
      try simp only [Act.put, List.setIfInBounds_toArray, List.set_cons_zero, List.set_cons_succ]
      refine rgc_1 11 (by kernel_rfl) ?_
      refine ⟨_, rfl, by rfl, fun K hK => ?_⟩
      obtain ⟨q4, z4, l4⟩ := HL.out.1
      unfold lkCells at q4
      go_simp
      have hLs := HL.out.sSn (.inl rfl) (.slice A2 (n + 1) c2)
      have hm : MemC (fun b o => (b = g ∧ o = 19) ∨ some b = rw1) x3 (x3.setCell ⟨g, 19, none⟩ (.slice A2 (n + 1) c2)) := (MemC.refl (fun b o => (b = g ∧ o = 19) ∨ some b = rw1) x3).of_set (.inl ⟨rfl, rfl⟩)
      have how := own_chx HOW.out (ChX.of_set (X := fun i => i = g) (g := g) (k := 19) (v := .slice A2 (n + 1) c2) rfl) (fun b hb e => by have h1 := (HOW.out.lt b hb).1; have h2 : b = g := e; omega)
      obtain ⟨x4, hW⟩ : ∃ W, (x3.setCell ⟨g, 19, none⟩ (.slice A2 (n + 1) c2)) = W := ⟨_, rfl⟩
      rw [hW] at hLs hm how ⊢
      refine hK (fun b o => (b = g ∧ o = 19) ∨ some b = rw1) _ _ (fun b o h => .inl h) hm ?_
      have HL := Lib.hid hLs
      have HOW := Lib.hid how
      clear q4 z4 l4 hm hLs hW how
      clear hK K
      try simp only [Act.put, List.setIfInBounds_toArray, List.set_cons_zero, List.set_cons_succ]
      refine rgc_d (by kernel_rfl) ?_
      go_wp2_with fail
      go_meet
      case rel => exact ⟨A2, c2, HL.out, HOW.out, HON.out⟩
  case rest =>
    obtain ⟨A2, c2, hl, how, hon⟩ := hcut
    have HL := Lib.hid hl
    have HOW := Lib.hid how
    have HON := Lib.hid hon
    clear hl how hon s0 ls
    go_upto_region 5 with fail
    have HL := Lib.hid HL.out.drew
    have HOW := Lib.hid HOW.out.drew
    obtain ⟨z0, hz0⟩ : ∃ z, wc.drew = z := ⟨_, rfl⟩
    rw [hz0] at HL HOW
    have y14 : z0.cell? ⟨g, 14, none⟩ = some (.int .i64 k.en) := HL.out.cell 14
    have y4 : z0.cell? ⟨g, 4, none⟩ = some (.int .i64 k.D) := HL.out.cell 4
    have lz : g < z0.heap.size := HL.out.1.2.2
    refine rgc_start (X := fun b o => b = g ∧ o = 15) (by kernel_rfl) ?_
    rw [hz0]
    refine rgc_t (v := ?_) (some 30) 0 (by kernel_rfl) rfl rfl (.inl ⟨by rfl, fun w' q => ?_⟩) ?_
    rotate_left
    · go_simp <;> with_reducible rfl
    try simp only [Act.put, List.setIfInBounds_toArray, List.set_cons_zero, List.set_cons_succ]
    refine rgc_t (v := ?_) (some 31) 1 (by kernel_rfl) rfl rfl (.inl ⟨by rfl, fun w' q => ?_⟩) ?_
    rotate_left
    · go_simp <;> with_reducible rfl
    try simp only [Act.put, List.setIfInBounds_toArray, List.set_cons_zero, List.set_cons_succ]
    refine rgc_t (v := ?_) (some 32) 2 (by kernel_rfl) rfl rfl (.inl ⟨by rfl, fun w' q => ?_⟩) ?_
    rotate_left
    · go_simp <;> with_reducible rfl
    try simp only [Act.put, List.setIfInBounds_toArray, List.set_cons_zero, List.set_cons_succ]
    refine rgc_t (v := ?_) (some 33) 3 (by kernel_rfl) rfl rfl (.inl ⟨by rfl, fun w' q => ?_⟩) ?_
    rotate_left
    · go_simp <;> with_reducible rfl
    try simp only [Act.put, List.setIfInBounds_toArray, List.set_cons_zero, List.set_cons_succ]
    refine rgc_t (v := ?_) (some 35) 5 (by kernel_rfl) rfl rfl (.inl ⟨by rfl, fun w' q => ?_⟩) ?_
    rotate_left
    · go_simp <;> with_reducible rfl
    try simp only [Act.put, List.setIfInBounds_toArray, List.set_cons_zero, List.set_cons_succ]
    refine rgc_t (v := ?_) (some 36) 6 (by kernel_rfl) rfl rfl (.inl ⟨by rfl, fun w' q => ?_⟩) ?_
    rotate_left
    · go_simp <;> with_reducible rfl
    try simp only [Act.put, List.setIfInBounds_toArray, List.set_cons_zero, List.set_cons_succ]
    refine rgc_t (v := ?_) (some 37) 7 (by kernel_rfl) rfl rfl (.inl ⟨by rfl, fun w' q => ?_⟩) ?_
    rotate_left
    · go_simp <;> with_reducible rfl
    try simp only [Act.put, List.setIfInBounds_toArray, List.set_cons_zero, List.set_cons_succ]
    refine rgc_t (v := ?_) (some 38) 8 (by kernel_rfl) rfl rfl (.inl ⟨by rfl, fun w' q => ?_⟩) ?_
    rotate_left
    · go_simp <;> with_reducible rfl
    try simp only [Act.put, List.setIfInBounds_toArray, List.set_cons_zero, List.set_cons_succ]
    refine rgc_t (v := ?_) (some 39) 9 (by kernel_rfl) rfl rfl (.inl ⟨by rfl, fun w' q => ?_⟩) ?_
    rotate_left
    · go_simp <;> with_reducible rfl
    try simp only [Act.put, List.setIfInBounds_toArray, List.set_cons_zero, List.set_cons_succ]
    refine rgc_t (v := ?_) (some 40) 10 (by kernel_rfl) rfl rfl (.inl ⟨by rfl, fun w' q => ?_⟩) ?_
    rotate_left
    · go_simp <;> with_reducible rfl
    try simp only [Act.put, List.setIfInBounds_toArray, List.set_cons_zero, List.set_cons_succ]
    refine rgc_t (v := ?_) (some 41) 11 (by kernel_rfl) rfl rfl (.inl ⟨by rfl, fun w' q => ?_⟩) ?_
    rotate_left
    · go_simp <;> with_reducible rfl
    try simp only [Act.put, List.setIfInBounds_toArray, List.set_cons_zero, List.set_cons_succ]
    refine rgc_t (v := ?_) (some 42) 12 (by kernel_rfl) rfl rfl (.inl ⟨by rfl, fun w' q => ?_⟩) ?_
    rotate_left
    · go_simp <;> with_reducible rfl
    try simp only [Act.put, List.setIfInBounds_toArray, List.set_cons_zero, List.set_cons_succ]
    refine rgc_t (v := ?_) (some 43) 13 (by kernel_rfl) rfl rfl (.inl ⟨by rfl, fun w' q => ?_⟩) ?_
    rotate_left
    · go_simp <;> with_reducible rfl
    try simp only [Act.put, List.setIfInBounds_toArray, List.set_cons_zero, List.set_cons_succ]
    refine rgc_1 4 (by kernel_rfl) ?_
    refine ⟨_, rfl, by rfl, fun K hK => ?_⟩
    obtain ⟨q4, z4, l4⟩ := HL.out.1
    unfold lkCells at q4
    go_simp
    obtain ⟨x1, hE⟩ : ∃ W : World, W = z0 := ⟨_, rfl⟩
    subst hE
    refine hK (fun b o => b = g ∧ o = 15) _ _ (fun b o h => .inl h) (MemC.refl _ _) ?_
    clear q4 z4 l4
    clear hK K
    try simp only [Act.put, List.setIfInBounds_toArray, List.set_cons_zero, List.set_cons_succ]
    refine rgc_t (v := ?_) (some 44) 14 (by kernel_rfl) rfl rfl (.inl ⟨by rfl, fun w' q => ?_⟩) ?_
    rotate_left
    · go_simp <;> with_reducible rfl
    try simp only [Act.put, List.setIfInBounds_toArray, List.set_cons_zero, List.set_cons_succ]
    refine rgc_t (v := ?_) (some 45) 15 (by kernel_rfl) rfl rfl (.inl ⟨by rfl, fun w' q => ?_⟩) ?_
    rotate_left
    · go_simp <;> with_reducible rfl
    try simp only [Act.put, List.setIfInBounds_toArray, List.set_cons_zero, List.set_cons_succ]
    refine rgc_t (v := ?_) (some 46) 16 (by kernel_rfl) rfl rfl (.inl ⟨by rfl, fun w' q => ?_⟩) ?_
    rotate_left
    · go_simp <;> with_reducible rfl
    try simp only [Act.put, List.setIfInBounds_toArray, List.set_cons_zero, List.set_cons_succ]
    refine rgc_1 17 (by kernel_rfl) ?_
    refine ⟨_, rfl, by rfl, fun K hK => ?_⟩
    obtain ⟨q4, z4, l4⟩ := HL.out.1
    unfold lkCells at q4
    go_simp
    rw [HMX.out]
    have hLs := HL.out.sUnt (.inl rfl) (maxZ k.unt (k.en + k.D))
    have hm : MemC (fun b o => b = g ∧ o = 15) x1 (x1.setCell ⟨g, 15, none⟩ (.int .i64 (maxZ k.unt (k.en + k.D)))) := (MemC.refl (fun b o => b = g ∧ o = 15) x1).of_set ⟨rfl, rfl⟩
    have how := own_chx HOW.out (ChX.of_set (X := fun i => i = g) (g := g) (k := 15) (v := .int .i64 (maxZ k.unt (k.en + k.D))) rfl) (fun b hb e => by have h1 := (HOW.out.lt b hb).1; have h2 : b = g := e; omega)
    obtain ⟨x2, hW⟩ : ∃ W, (x1.setCell ⟨g, 15, none⟩ (.int .i64 (maxZ k.unt (k.en + k.D)))) = W := ⟨_, rfl⟩
    rw [hW] at hLs hm how ⊢
    refine hK (fun b o => b = g ∧ o = 15) _ _ (fun b o h => .inl h) hm ?_
    have HL := Lib.hid hLs
    have HOW := Lib.hid how
    clear q4 z4 l4 hm hLs hW how
    clear hK K
    try simp only [Act.put, List.setIfInBounds_toArray, List.set_cons_zero, List.set_cons_succ]
    refine rgc_d (by kernel_rfl) ?_
    obtain ⟨q4, z4, l4⟩ := HL.out.1
    unfold lkCells at q4
    go_wp2
    go_end0
    exact ⟨A2, c2, rfl, HL.out.sPh (.inl rfl) 4, own_chx HOW.out (ChX.of_set (X := fun i => i = g) (g := g) (k := 5) (v := .int .i64 4) rfl) (fun b hb e => by have h1 := (HOW.out.lt b hb).1; have h2 : b = g := e; omega), HON.out⟩
end Go.Proofs.Ytoliplochipoeaa

/- Layer 19: repeat. -/
set_option linter.unusedVariables false
set_option linter.unusedSimpArgs false
namespace Go.Proofs.Ytoliplochipoeaa
open Go.RowKit

theorem LB.drewN {X : Nat → Prop} {w0 w : World} {g : Nat} {k : Lk} (h : LB X w0 w g k) (n : Nat) : LB X w0 (w.drewN n) g k := h
theorem contains_eq (xs : List Int) (v : Int) (b : Bool) (hb : decide (v ∈ xs) = b) (n : Nat) (A : Option Addr) (c B : Nat) (w : World) (hr : Rd w B 1 A n (i64s xs)) (hm : n ≤ maxLen) :
    Calls Try.prog 50 #[.slice A n c, .int .i64 v] w fun e w' => e = .returned (.bool b) ∧ w = w' := contains_any xs v n A c B b w hr hm hb
def verdL (xs : List Int) : Int := if 4 ∈ xs then 4 else if 5 ∈ xs then 5 else 3
set_option maxRecDepth 100000 in
set_option maxHeartbeats 4000000 in
theorem repeat_again (k : Lk) (g : Nat) (w : World) (hB : Box w g (lkCells k)) (ha : k.att ≤ k.R) :
    Calls Try.prog 65 #[iptr g] w fun e w' => e = .returned (.tuple #[]) ∧ LB (fun i => i = g) w w' g { k with ph := 1 } := by
  have HL := Lib.hid (show LB (fun i => i = g) w w g k from ⟨hB, ChX.refl _ _⟩)
  have y18 : w.cell? ⟨g, 18, none⟩ = some (.int .i64 k.att) := hB.1 18
  have y2 : w.cell? ⟨g, 2, none⟩ = some (.int .i64 k.R) := hB.1 2
  have y5 : w.cell? ⟨g, 5, none⟩ = some (.int .i64 k.ph) := hB.1 5
  have z := hB.2.1
  have l := hB.2.2
  clear hB
  go_enter Try.func65, Try.ntmps65
  go_wp2_with fail
  go_quiet (fail)
  go_wp2
  (try simp only [Exit.inBlock, Exit.then])
  refine bodyPost_ret (results_none rfl _ _ _) rfl ?_
  exact ⟨rfl, (HL.out.drewN _).sPh rfl 1⟩
set_option maxRecDepth 100000 in
set_option maxHeartbeats 4000000 in
theorem repeat_end (k : Lk) (g : Nat) (A : Option Addr) (n c : Nat) (xs : List Int) (w : World) (hB : Box w g (lkCells k)) (ha : k.R < k.att) (hsn : k.sn = .slice A n c) (hr : Rd w w.heap.size 1 A n (i64s xs)) (hng : ∀ b off, A = some ⟨b, off, none⟩ → ¬ b = g) (hn : n ≤ 1000) (hx : 3 ∈ xs ∨ 4 ∈ xs ∨ 5 ∈ xs) :
    Calls Try.prog 65 #[iptr g] w fun e w' => e = .returned (.tuple #[]) ∧ LB (fun i => i = g) w w' g { k with ph := 5, o0 := .int .i64 (verdL xs), o1 := .int .i64 0, o2 := .int .i64 0, o3 := .slice none 0 0, o4 := .int .i64 0, o5 := .int .i64 0, o6 := .bool false, o7 := .int .i64 0, o8 := .slice none 0 0 } := by
  have HL := Lib.hid (show LB (fun i => i = g) w w g k from ⟨hB, ChX.refl _ _⟩)
  have y18 : w.cell? ⟨g, 18, none⟩ = some (.int .i64 k.att) := hB.1 18
  have y2 : w.cell? ⟨g, 2, none⟩ = some (.int .i64 k.R) := hB.1 2
  have y5 : w.cell? ⟨g, 5, none⟩ = some (.int .i64 k.ph) := hB.1 5
  have z := hB.2.1
  have l := hB.2.2
  have HR := Lib.hid (fun (W : World) (h : ChX (fun i => i = g) w W) => hr.chx (Nat.le_refl _) h (fun _ b off e => hng b off e))
  have HSN := Lib.hid hsn
  have HXS := Lib.hid hx
  clear hB hr hsn hx hng
  go_enter Try.func65, Try.ntmps65
  go_wp2_with fail
  go_quiet (fail)
  go_wp2_with fail
  have HL := Lib.hid (((HL.out.drewN nq).sPh rfl 5).below ((Below.refl _ _).alloc (Nat.le_refl _) (.cells #[.int .i64 4, .int .i64 5, .int .i64 3] 3)))
  have HRL := Lib.hid (Box.alloc_ (w := (w.drewN nq).setCell ⟨g, 5, none⟩ (.int .i64 5)) (cs := #[.int .i64 4, .int .i64 5, .int .i64 3]) (e := 3))
  obtain ⟨bl, hbl⟩ : ∃ b, w.heap.size = b := ⟨_, rfl⟩
  have hbl2 : ((w.drewN nq).setCell ⟨g, 5, none⟩ (.int .i64 5)).heap.size = bl := by rw [← hbl]; simp [World.setCell]
  rw [hbl2] at HRL
  rw [hbl]
  obtain ⟨W, hW⟩ : ∃ W, ((w.drewN nq).setCell ⟨g, 5, none⟩ (.int .i64 5)).alloc (.cells #[.int .i64 4, .int .i64 5, .int .i64 3] 3) = W := ⟨_, rfl⟩
  rw [hW] at HL HRL ⊢
  clear hW hbl hbl2 y18 y2 y5 z l
  have HC4 := Lib.hid (fun W' b h => contains_eq xs 4 b h n A c w.heap.size W')
  have HC5 := Lib.hid (fun W' b h => contains_eq xs 5 b h n A c w.heap.size W')
  have HC3 := Lib.hid (fun W' b h => contains_eq xs 3 b h n A c w.heap.size W')
  obtain ⟨qb, zb, lb⟩ := HRL.out
  have b0 : W.cell? ⟨bl, 0, none⟩ = some (.int .i64 4) := qb 0
  have b1 : W.cell? ⟨bl, 1, none⟩ = some (.int .i64 5) := qb 1
  have b2 : W.cell? ⟨bl, 2, none⟩ = some (.int .i64 3) := qb 2
  have y19 : W.cell? ⟨g, 19, none⟩ = some (.slice A n c) := by rw [HL.out.cell 19]; simp [lkCells, HSN.out]
  have hlk := HL.out.1
  obtain ⟨qg, zg, lg⟩ := hlk
  simp only [lkCells, HSN.out] at qg
  clear qb zb y19
  go_loop [21] (fun i => ∃ j : Nat, j ≤ 2 ∧ i = .int .i64 j ∧ (1 ≤ j → 4 ∉ xs) ∧ (2 ≤ j → 5 ∉ xs)) (fun i => 3 - (intOf i).toNat)
  case atStart => exact ⟨0, by omega, rfl, fun h => absurd h (by omega), fun h => absurd h (by omega)⟩
  case round =>
    obtain ⟨j, hj, rfl, h4, h5⟩ := hrel
    have H4 := Lib.hid h4
    have H5 := Lib.hid h5
    rcases (show j = 0 ∨ j = 1 ∨ j = 2 by omega) with rfl | rfl | rfl
    · obtain ⟨b, hb⟩ : ∃ b, decide (4 ∈ xs) = b := ⟨_, rfl⟩
      have HBB := Lib.hid hb
      clear hb h4 h5 hj
      go_wp2_with fail
      refine (HC4.out _ b HBB.out (HR.out _ HL.out.2) (by simp [maxLen]; omega)).mono ?_
      rintro e w' ⟨rfl, rfl⟩
      cases b
      · go_wp2
        go_round
        case rel => exact ⟨1, by omega, rfl, fun _ h => by have := HBB.out; simp [h] at this, fun h => absurd h (by omega)⟩
        case measure => simp [intOf]
      · go_wp2
        (try simp only [Exit.inBlock, Exit.then])
        refine bodyPost_ret (results_none rfl _ _ _) rfl ?_
        have hv : verdL xs = 4 := by have := HBB.out; simp at this; simp [verdL, this]
        rw [hv]
        exact ⟨rfl, HL.out.sOut rfl _ _ _ _ _ _ _ _ _⟩
    · obtain ⟨b, hb⟩ : ∃ b, decide (5 ∈ xs) = b := ⟨_, rfl⟩
      have HBB := Lib.hid hb
      clear hb h4 h5 hj
      go_wp2_with fail
      refine (HC5.out _ b HBB.out (HR.out _ HL.out.2) (by simp [maxLen]; omega)).mono ?_
      rintro e w' ⟨rfl, rfl⟩
      cases b
      · go_wp2
        go_round
        case rel => exact ⟨2, by omega, rfl, fun _ => H4.out (by omega), fun _ h => by have := HBB.out; simp [h] at this⟩
        case measure => simp [intOf]
      · go_wp2
        (try simp only [Exit.inBlock, Exit.then])
        refine bodyPost_ret (results_none rfl _ _ _) rfl ?_
        have hv : verdL xs = 5 := by have := HBB.out; simp at this; simp [verdL, this, H4.out (by omega)]
        rw [hv]
        exact ⟨rfl, HL.out.sOut rfl _ _ _ _ _ _ _ _ _⟩
    · clear h4 h5 hj
      have HB3 := Lib.hid (show decide (3 ∈ xs) = true by rcases HXS.out with h | h | h; simp [h]; exact absurd h (H4.out (by omega)); exact absurd h (H5.out (by omega)))
      go_wp2_with fail
      refine (HC3.out _ true HB3.out (HR.out _ HL.out.2) (by simp [maxLen]; omega)).mono ?_
      rintro e w' ⟨rfl, rfl⟩
      go_wp2
      (try simp only [Exit.inBlock, Exit.then])
      refine bodyPost_ret (results_none rfl _ _ _) rfl ?_
      have hv : verdL xs = 3 := by simp [verdL, H4.out (by omega), H5.out (by omega)]
      rw [hv]
      exact ⟨rfl, HL.out.sOut rfl _ _ _ _ _ _ _ _ _⟩
end Go.Proofs.Ytoliplochipoeaa

/- Layer 19: Silence while waiting, and while draining. -/
set_option linter.unusedVariables false
set_option linter.unusedSimpArgs false
namespace Go.Proofs.Ytoliplochipoeaa
open Go.RowKit

def LJudged0 (w : World) (g : Nat) (k : Lk) (n : Nat) (xs : List Int) (v : Int) (e : Ending) (w' : World) : Prop :=
  ∃ A c, e = .returned (.int .i64 0) ∧ LB (fun i => i = g ∨ some i = k.sn.ownBlock) w w' g { k with sn := .slice A (n + 1) c, unt := maxZ k.unt (k.en + k.D), ph := 4 } ∧
    w'.ownsRow (g + 1) 3 1 (.slice A (n + 1) c) (n + 1) (i64s (xs ++ [v])) ∧ OwnNext w k.sn (.slice A (n + 1) c)
set_option maxRecDepth 100000 in
set_option maxHeartbeats 4000000 in
theorem silence_wait (k : Lk) (g : Nat) (A : Option Addr) (n c : Nat) (xs : List Int) (w : World) (hB : Box w g (lkCells k)) (hph : k.ph = 2) (hsn : k.sn = .slice A n c) (hown : w.ownsRow (g + 1) 3 1 (.slice A n c) n (i64s xs)) (hn : n ≤ 1000)
    (hE : 0 ≤ k.en ∧ k.en ≤ 1152921504606846976) (hD : 0 ≤ k.D ∧ k.D ≤ 100000000) :
    Calls Try.prog 45 #[iptr g] w (LJudged0 w g k n xs 3) := by
  have HL := Lib.hid (fun W (h : w = W) => h ▸ listens_yes k g w hB (.inl hph))
  have HJ := Lib.hid (fun W (h : w = W) => h ▸ judged_no k g A n c xs 3 w hB hsn hown (by omega) hn hE hD)
  have y5 : w.cell? ⟨g, 5, none⟩ = some (.int .i64 2) := by rw [hB.1 5]; simp [lkCells, hph]
  clear hB hown hsn
  go_enter Try.func45, Try.ntmps45
  go_wp2_with fail
  refine (HL.out _ rfl).mono ?_
  rintro e w' ⟨rfl, rfl⟩
  go_wp2_with fail
  refine (HJ.out _ rfl).mono ?_
  rintro e w' ⟨A2, c2, rfl, h1, h2, h3⟩
  go_wp2_with fail
  go_ret
  exact ⟨A2, c2, rfl, h1, h2, h3⟩
set_option maxRecDepth 100000 in
set_option maxHeartbeats 4000000 in
theorem silence_again (k : Lk) (g : Nat) (w : World) (hB : Box w g (lkCells k)) (hph : k.ph = 4) (ha : k.att ≤ k.R) :
    Calls Try.prog 45 #[iptr g] w fun e w' => e = .returned (.int .i64 0) ∧ LB (fun i => i = g) w w' g { k with now := k.unt, ph := 1 } := by
  have HL := Lib.hid (fun W (h : w = W) => h ▸ listens_yes k g w hB (.inr (.inr hph)))
  have HLB := Lib.hid (show LB (fun i => i = g) w w g k from ⟨hB, ChX.refl _ _⟩)
  have y5 : w.cell? ⟨g, 5, none⟩ = some (.int .i64 4) := by rw [hB.1 5]; simp [lkCells, hph]
  have y15 : w.cell? ⟨g, 15, none⟩ = some (.int .i64 k.unt) := hB.1 15
  have y13 : w.cell? ⟨g, 13, none⟩ = some (.int .i64 k.now) := hB.1 13
  have z := hB.2.1
  have l := hB.2.2
  have HA := Lib.hid ha
  clear hB ha
  go_enter Try.func45, Try.ntmps45
  go_wp2_with fail
  refine (HL.out _ rfl).mono ?_
  rintro e w' ⟨rfl, rfl⟩
  go_wp2_with fail
  have HLB := Lib.hid (HLB.out.sNow rfl k.unt)
  refine (repeat_again { k with now := k.unt } g _ HLB.out.1 HA.out).mono ?_
  rintro e w' ⟨rfl, h1⟩
  have HF := Lib.hid (show LB (fun i => i = g) w w' g { k with now := k.unt, ph := 1 } from ⟨h1.1, HLB.out.2.trans h1.2 (fun _ _ h => h)⟩)
  clear h1 y5 y15 y13 z l
  go_wp2_with fail
  go_ret
  exact ⟨rfl, HF.out⟩
set_option maxRecDepth 100000 in
set_option maxHeartbeats 4000000 in
theorem silence_end (k : Lk) (g : Nat) (A : Option Addr) (n c : Nat) (xs : List Int) (w : World) (hB : Box w g (lkCells k)) (hph : k.ph = 4) (ha : k.R < k.att) (hsn : k.sn = .slice A n c) (hr : Rd w w.heap.size 1 A n (i64s xs)) (hng : ∀ b off, A = some ⟨b, off, none⟩ → ¬ b = g) (hn : n ≤ 1000) (hx : 3 ∈ xs ∨ 4 ∈ xs ∨ 5 ∈ xs) :
    Calls Try.prog 45 #[iptr g] w fun e w' => e = .returned (.int .i64 0) ∧ LB (fun i => i = g) w w' g { k with now := k.unt, ph := 5, o0 := .int .i64 (verdL xs), o1 := .int .i64 0, o2 := .int .i64 0, o3 := .slice none 0 0, o4 := .int .i64 0, o5 := .int .i64 0, o6 := .bool false, o7 := .int .i64 0, o8 := .slice none 0 0 } := by
  have HL := Lib.hid (fun W (h : w = W) => h ▸ listens_yes k g w hB (.inr (.inr hph)))
  have HLB := Lib.hid (show LB (fun i => i = g) w w g k from ⟨hB, ChX.refl _ _⟩)
  have y5 : w.cell? ⟨g, 5, none⟩ = some (.int .i64 4) := by rw [hB.1 5]; simp [lkCells, hph]
  have y15 : w.cell? ⟨g, 15, none⟩ = some (.int .i64 k.unt) := hB.1 15
  have y13 : w.cell? ⟨g, 13, none⟩ = some (.int .i64 k.now) := hB.1 13
  have z := hB.2.1
  have l := hB.2.2
  have HRD := Lib.hid (show Rd (w.setCell ⟨g, 13, none⟩ (.int .i64 k.unt)) (w.setCell ⟨g, 13, none⟩ (.int .i64 k.unt)).heap.size 1 A n (i64s xs) from by
    have h0 := hr.chx (Nat.le_refl _) ((ChX.refl (fun i => i = g) w).set (g := g) (k := 13) (v := .int .i64 k.unt) (fun _ => rfl)) (fun _ b off e => hng b off e)
    simpa [World.setCell] using h0)
  have HRE := Lib.hid (fun W h1 h2 => repeat_end { k with now := k.unt } g A n c xs W h1 ha hsn h2 hng hn hx)
  clear hB ha hsn hr hng hx
  go_enter Try.func45, Try.ntmps45
  go_wp2_with fail
  refine (HL.out _ rfl).mono ?_
  rintro e w' ⟨rfl, rfl⟩
  go_wp2_with fail
  have HLB := Lib.hid (HLB.out.sNow rfl k.unt)
  refine (HRE.out _ HLB.out.1 HRD.out).mono ?_
  rintro e w' ⟨rfl, h1⟩
  have HF := Lib.hid (And.intro h1.1 (HLB.out.2.trans h1.2 (fun _ _ h => h)))
  clear h1 y5 y15 y13 z l
  go_wp2_with fail
  go_ret
  exact ⟨rfl, HF.out⟩
end Go.Proofs.Ytoliplochipoeaa

/- Layer 19: the outcome of a transaction that heard nothing. -/
set_option linter.unusedVariables false
set_option linter.unusedSimpArgs false
namespace Go.Proofs.Ytoliplochipoeaa
open Go.RowKit

theorem bclone_nil (w : World) : Calls Try.prog 35 #[.slice none 0 0] w fun e w' => e = .returned (.slice none 0 0) ∧ w = w' := by
  have he : ∀ w, (binOp .eql 22 (.slice none 0 0) (.slice none 0 0)).run Try.prog w = .ok (.bool true) w := fun w =>
    Lib.run_eql_slice_nil w _ _ _ _ _ _ _ Try.underlying22
  go_enter Try.func35, Try.ntmps35
  go_wp2
  go_ret
  exact ⟨rfl, rfl⟩
theorem oclone_nil (w : World) : Calls Try.prog 77 #[.slice none 0 0] w fun e w' => e = .returned (.slice none 0 0) ∧ w = w' := by
  have he : ∀ w, (binOp .eql 54 (.slice none 0 0) (.slice none 0 0)).run Try.prog w = .ok (.bool true) w := fun w =>
    Lib.run_eql_slice_nil w _ _ _ _ _ _ _ Try.underlying54
  go_enter Try.func77, Try.ntmps77
  go_wp2
  go_ret
  exact ⟨rfl, rfl⟩
set_option maxRecDepth 100000 in
set_option maxHeartbeats 4000000 in
theorem copied_nil (v : Int) (w : World) : Calls Try.prog 66 #[zeroOc v] w fun e w' => e = .returned (zeroOc v) ∧ Below w.heap.size w w' := by
  have hb0 : Below w.heap.size w ((w.alloc (.cells #[.int .i64 v, .int .i64 0, .int .i64 0, .slice none 0 0, .int .i64 0, .int .i64 0, .bool false, .int .i64 0, .slice none 0 0] 58)).alloc (.cells #[.int .i64 0, .int .i64 0, .int .i64 0, .slice none 0 0, .int .i64 0, .int .i64 0, .bool false, .int .i64 0, .slice none 0 0] 58)) := ext_alloc' (ext_alloc' (Below.refl _ _) (Below.refl _ _)) (Below.refl _ _)
  have hB1 := (Box.alloc_ (w := w) (cs := #[.int .i64 v, .int .i64 0, .int .i64 0, .slice none 0 0, .int .i64 0, .int .i64 0, .bool false, .int .i64 0, .slice none 0 0]) (e := 58)).alloc' (.cells #[.int .i64 0, .int .i64 0, .int .i64 0, .slice none 0 0, .int .i64 0, .int .i64 0, .bool false, .int .i64 0, .slice none 0 0] 58)
  have hB2 := Box.alloc_ (w := w.alloc (.cells #[.int .i64 v, .int .i64 0, .int .i64 0, .slice none 0 0, .int .i64 0, .int .i64 0, .bool false, .int .i64 0, .slice none 0 0] 58)) (cs := #[.int .i64 0, .int .i64 0, .int .i64 0, .slice none 0 0, .int .i64 0, .int .i64 0, .bool false, .int .i64 0, .slice none 0 0]) (e := 58)
  rw [show (w.alloc (.cells #[.int .i64 v, .int .i64 0, .int .i64 0, .slice none 0 0, .int .i64 0, .int .i64 0, .bool false, .int .i64 0, .slice none 0 0] 58)).heap.size = w.heap.size + 1 by simp] at hB2
  have HB := Lib.hid hb0
  have HB1 := Lib.hid hB1
  have HB2 := Lib.hid hB2
  clear hb0 hB1 hB2
  go_enter Try.func66, Try.ntmps66
  go_upto_region 2 with fail
  obtain ⟨x0, hx0⟩ : ∃ W : World, ((w.alloc (.cells #[.int .i64 v, .int .i64 0, .int .i64 0, .slice none 0 0, .int .i64 0, .int .i64 0, .bool false, .int .i64 0, .slice none 0 0] 58)).alloc (.cells #[.int .i64 0, .int .i64 0, .int .i64 0, .slice none 0 0, .int .i64 0, .int .i64 0, .bool false, .int .i64 0, .slice none 0 0] 58)).drew = W := ⟨_, rfl⟩
  have HB := Lib.hid (hx0 ▸ below_drew HB.out)
  have HB1 := Lib.hid (hx0 ▸ HB1.out.drew)
  have HB2 := Lib.hid (hx0 ▸ HB2.out.drew)
  have hg1 : w.heap.size ≤ w.heap.size := Nat.le_refl _
  obtain ⟨g, hg⟩ : ∃ g, w.heap.size = g := ⟨_, rfl⟩
  rw [hg] at HB HB1 HB2 ⊢
  have hg3 : ¬ (g + 1 = g) := by omega
  go_cut [] (fun x => Below g w x ∧ Box x g #[.int .i64 v, .int .i64 0, .int .i64 0, .slice none 0 0, .int .i64 0, .int .i64 0, .bool false, .int .i64 0, .slice none 0 0] ∧ Box x (g + 1) #[.int .i64 0, .int .i64 0, .int .i64 0, .slice none 0 0, .int .i64 0, .int .i64 0, .bool false, .int .i64 0, .slice none 0 0])
  case first =>
    obtain ⟨q1, z1, l1⟩ := HB1.out
    refine rgc_start (X := fun b o => b = g ∧ (o = 3 ∨ o = 8)) (by kernel_rfl) ?_
    rw [hx0]
    refine rgc_t (v := ?_) (some 6) 0 (by kernel_rfl) rfl rfl (.inl ⟨by rfl, fun w' q => ?_⟩) ?_
    rotate_left
    · go_simp <;> with_reducible rfl
    try simp only [Act.put, List.setIfInBounds_toArray, List.set_cons_zero, List.set_cons_succ]
    refine rgc_t (v := ?_) (some 7) 1 (by kernel_rfl) rfl rfl (.inl ⟨by rfl, fun w' q => ?_⟩) ?_
    rotate_left
    · go_simp <;> with_reducible rfl
    try simp only [Act.put, List.setIfInBounds_toArray, List.set_cons_zero, List.set_cons_succ]
    refine rgc_t (v := ?_) (some 8) 2 (by kernel_rfl) rfl rfl (.inl ⟨by rfl, fun w' q => ?_⟩) ?_
    rotate_left
    · go_simp <;> with_reducible rfl
    try simp only [Act.put, List.setIfInBounds_toArray, List.set_cons_zero, List.set_cons_succ]
    refine rgc_t (v := ?_) (some 9) 3 (by kernel_rfl) rfl rfl (.inl ⟨by rfl, fun w' q => ?_⟩) ?_
    rotate_left
    · go_simp <;> with_reducible rfl
    try simp only [Act.put, List.setIfInBounds_toArray, List.set_cons_zero, List.set_cons_succ]
    refine rgc_t (v := ?_) (some 10) 4 (by kernel_rfl) rfl rfl (.inl ⟨by rfl, fun w' q => ?_⟩) ?_
    rotate_left
    · go_simp <;> with_reducible rfl
    try simp only [Act.put, List.setIfInBounds_toArray, List.set_cons_zero, List.set_cons_succ]
    refine rgc_t (v := ?_) (some 13) 7 (by kernel_rfl) rfl rfl (.inl ⟨by rfl, fun w' q => ?_⟩) ?_
    rotate_left
    · go_simp <;> with_reducible rfl
    try simp only [Act.put, List.setIfInBounds_toArray, List.set_cons_zero, List.set_cons_succ]
    refine rgc_t (v := ?_) (some 14) 8 (by kernel_rfl) rfl rfl (.inl ⟨by rfl, fun w' q => ?_⟩) ?_
    rotate_left
    · go_simp <;> with_reducible rfl
    try simp only [Act.put, List.setIfInBounds_toArray, List.set_cons_zero, List.set_cons_succ]
    refine rgc_t (v := ?_) (some 15) 9 (by kernel_rfl) rfl rfl (.inl ⟨by rfl, fun w' q => ?_⟩) ?_
    rotate_left
    · go_simp <;> with_reducible rfl
    try simp only [Act.put, List.setIfInBounds_toArray, List.set_cons_zero, List.set_cons_succ]
    refine rgc_2 5 10 (by kernel_rfl) ?_ ?_
    · refine ⟨_, rfl, by rfl, fun K hK => ?_⟩
      obtain ⟨q4, z4, l4⟩ := HB1.out
      go_simp
      obtain ⟨x1, hE⟩ : ∃ W : World, W = x0 := ⟨_, rfl⟩
      subst hE
      refine hK (fun b o => b = g ∧ (o = 3 ∨ o = 8)) _ _ (fun b o h => .inl h) (MemC.refl _ _) ?_
      clear q4 z4 l4
      clear hK K
      try simp only [Act.put, List.setIfInBounds_toArray, List.set_cons_zero, List.set_cons_succ]
      refine rgc_q (v := ?_) (some 12) 6 (by kernel_rfl) rfl rfl (by rfl) (fun w' hw K hK => ?_) ?_
      rotate_left
      · go_simp
        refine (bclone_nil _).mono ?_
        rintro e w6 ⟨rfl, rfl⟩
        exact hK
      try simp only [Act.put, List.setIfInBounds_toArray, List.set_cons_zero, List.set_cons_succ]
      refine rgc_1 10 (by kernel_rfl) ?_
      refine ⟨_, rfl, by rfl, fun K hK => ?_⟩
      obtain ⟨q4, z4, l4⟩ := HB1.out
      go_simp
      obtain ⟨x2, hE⟩ : ∃ W : World, W = x1 := ⟨_, rfl⟩
      subst hE
      refine hK (fun b o => b = g ∧ (o = 3 ∨ o = 8)) _ _ (fun b o h => .inl h) (MemC.refl _ _) ?_
      clear q4 z4 l4
      clear hK K
      try simp only [Act.put, List.setIfInBounds_toArray, List.set_cons_zero, List.set_cons_succ]
      refine rgc_q (v := ?_) (some 17) 11 (by kernel_rfl) rfl rfl (by rfl) (fun w' hw K hK => ?_) ?_
      rotate_left
      · go_simp
        refine (oclone_nil _).mono ?_
        rintro e w6 ⟨rfl, rfl⟩
        exact hK
      try simp only [Act.put, List.setIfInBounds_toArray, List.set_cons_zero, List.set_cons_succ]
      refine rgc_t (v := ?_) (some 18) 12 (by kernel_rfl) rfl rfl (.inl ⟨by rfl, fun w' q => ?_⟩) ?_
      rotate_left
      · go_simp <;> with_reducible rfl
      try simp only [Act.put, List.setIfInBounds_toArray, List.set_cons_zero, List.set_cons_succ]
      refine rgc_t (v := ?_) (some 19) 13 (by kernel_rfl) rfl rfl (.inl ⟨by rfl, fun w' q => ?_⟩) ?_
      rotate_left
      · go_simp <;> with_reducible rfl
      try simp only [Act.put, List.setIfInBounds_toArray, List.set_cons_zero, List.set_cons_succ]
      refine rgc_1 14 (by kernel_rfl) ?_
      refine ⟨_, rfl, by rfl, fun K hK => ?_⟩
      obtain ⟨q4, z4, l4⟩ := HB1.out
      go_simp
      have hm : MemC (fun b o => b = g ∧ (o = 3 ∨ o = 8)) x2 (x2.setCell ⟨g, 3, none⟩ (.slice none 0 0)) := (MemC.refl (fun b o => b = g ∧ (o = 3 ∨ o = 8)) x2).of_set ⟨rfl, .inl rfl⟩
      have hs1 := HB1.out.set (k := 3) (v := .slice none 0 0) (by simp) rfl
      have hs2 := HB2.out.chx (ChX.of_set (X := fun i => i = g) (g := g) (k := 3) (v := .slice none 0 0) rfl) hg3
      have hs3 := HB.out.setCell (p := ⟨g, 3, none⟩) (Nat.le_refl _) (.slice none 0 0)
      obtain ⟨x3, hW⟩ : ∃ W, x2.setCell ⟨g, 3, none⟩ (.slice none 0 0) = W := ⟨_, rfl⟩
      rw [hW] at hm hs1 hs2 hs3 ⊢
      refine hK (fun b o => b = g ∧ (o = 3 ∨ o = 8)) _ _ (fun b o h => .inl h) hm ?_
      have HB1 := Lib.hid hs1
      have HB2 := Lib.hid hs2
      have HB := Lib.hid hs3
      clear q4 z4 l4 hm hs1 hs2 hs3 hW
      clear hK K
      try simp only [Act.put, List.setIfInBounds_toArray, List.set_cons_zero, List.set_cons_succ]
      refine rgc_t (v := ?_) (some 20) 15 (by kernel_rfl) rfl rfl (.inl ⟨by rfl, fun w' q => ?_⟩) ?_
      rotate_left
      · go_simp <;> with_reducible rfl
      try simp only [Act.put, List.setIfInBounds_toArray, List.set_cons_zero, List.set_cons_succ]
      refine rgc_t (v := ?_) (some 21) 16 (by kernel_rfl) rfl rfl (.inl ⟨by rfl, fun w' q => ?_⟩) ?_
      rotate_left
      · go_simp <;> with_reducible rfl
      try simp only [Act.put, List.setIfInBounds_toArray, List.set_cons_zero, List.set_cons_succ]
      refine rgc_1 17 (by kernel_rfl) ?_
      refine ⟨_, rfl, by rfl, fun K hK => ?_⟩
      obtain ⟨q4, z4, l4⟩ := HB1.out
      go_simp
      have hm : MemC (fun b o => b = g ∧ (o = 3 ∨ o = 8)) x3 (x3.setCell ⟨g, 8, none⟩ (.slice none 0 0)) := (MemC.refl (fun b o => b = g ∧ (o = 3 ∨ o = 8)) x3).of_set ⟨rfl, .inr rfl⟩
      have hs1 := HB1.out.set (k := 8) (v := .slice none 0 0) (by simp) rfl
      have hs2 := HB2.out.chx (ChX.of_set (X := fun i => i = g) (g := g) (k := 8) (v := .slice none 0 0) rfl) hg3
      have hs3 := HB.out.setCell (p := ⟨g, 8, none⟩) (Nat.le_refl _) (.slice none 0 0)
      obtain ⟨x4, hW⟩ : ∃ W, x3.setCell ⟨g, 8, none⟩ (.slice none 0 0) = W := ⟨_, rfl⟩
      rw [hW] at hm hs1 hs2 hs3 ⊢
      refine hK (fun b o => b = g ∧ (o = 3 ∨ o = 8)) _ _ (fun b o h => .inl h) hm ?_
      have HB1 := Lib.hid hs1
      have HB2 := Lib.hid hs2
      have HB := Lib.hid hs3
      clear q4 z4 l4 hm hs1 hs2 hs3 hW
      clear hK K
      try simp only [Act.put, List.setIfInBounds_toArray, List.set_cons_zero, List.set_cons_succ]
      refine rgc_d (by kernel_rfl) ?_
      go_wp2_with fail
      go_meet
      case rel => exact ⟨HB.out, HB1.out, HB2.out⟩
    · refine ⟨_, rfl, by rfl, fun K hK => ?_⟩
      obtain ⟨q4, z4, l4⟩ := HB1.out
      go_simp
      obtain ⟨x1, hE⟩ : ∃ W : World, W = x0 := ⟨_, rfl⟩
      subst hE
      refine hK (fun b o => b = g ∧ (o = 3 ∨ o = 8)) _ _ (fun b o h => .inl h) (MemC.refl _ _) ?_
      clear q4 z4 l4
      clear hK K
      try simp only [Act.put, List.setIfInBounds_toArray, List.set_cons_zero, List.set_cons_succ]
      refine rgc_1 5 (by kernel_rfl) ?_
      refine ⟨_, rfl, by rfl, fun K hK => ?_⟩
      obtain ⟨q4, z4, l4⟩ := HB1.out
      go_simp
      obtain ⟨x2, hE⟩ : ∃ W : World, W = x1 := ⟨_, rfl⟩
      subst hE
      refine hK (fun b o => b = g ∧ (o = 3 ∨ o = 8)) _ _ (fun b o h => .inl h) (MemC.refl _ _) ?_
      clear q4 z4 l4
      clear hK K
      try simp only [Act.put, List.setIfInBounds_toArray, List.set_cons_zero, List.set_cons_succ]
      refine rgc_q (v := ?_) (some 12) 6 (by kernel_rfl) rfl rfl (by rfl) (fun w' hw K hK => ?_) ?_
      rotate_left
      · go_simp
        refine (bclone_nil _).mono ?_
        rintro e w6 ⟨rfl, rfl⟩
        exact hK
      try simp only [Act.put, List.setIfInBounds_toArray, List.set_cons_zero, List.set_cons_succ]
      refine rgc_q (v := ?_) (some 17) 11 (by kernel_rfl) rfl rfl (by rfl) (fun w' hw K hK => ?_) ?_
      rotate_left
      · go_simp
        refine (oclone_nil _).mono ?_
        rintro e w6 ⟨rfl, rfl⟩
        exact hK
      try simp only [Act.put, List.setIfInBounds_toArray, List.set_cons_zero, List.set_cons_succ]
      refine rgc_t (v := ?_) (some 18) 12 (by kernel_rfl) rfl rfl (.inl ⟨by rfl, fun w' q => ?_⟩) ?_
      rotate_left
      · go_simp <;> with_reducible rfl
      try simp only [Act.put, List.setIfInBounds_toArray, List.set_cons_zero, List.set_cons_succ]
      refine rgc_t (v := ?_) (some 19) 13 (by kernel_rfl) rfl rfl (.inl ⟨by rfl, fun w' q => ?_⟩) ?_
      rotate_left
      · go_simp <;> with_reducible rfl
      try simp only [Act.put, List.setIfInBounds_toArray, List.set_cons_zero, List.set_cons_succ]
      refine rgc_1 14 (by kernel_rfl) ?_
      refine ⟨_, rfl, by rfl, fun K hK => ?_⟩
      obtain ⟨q4, z4, l4⟩ := HB1.out
      go_simp
      have hm : MemC (fun b o => b = g ∧ (o = 3 ∨ o = 8)) x2 (x2.setCell ⟨g, 3, none⟩ (.slice none 0 0)) := (MemC.refl (fun b o => b = g ∧ (o = 3 ∨ o = 8)) x2).of_set ⟨rfl, .inl rfl⟩
      have hs1 := HB1.out.set (k := 3) (v := .slice none 0 0) (by simp) rfl
      have hs2 := HB2.out.chx (ChX.of_set (X := fun i => i = g) (g := g) (k := 3) (v := .slice none 0 0) rfl) hg3
      have hs3 := HB.out.setCell (p := ⟨g, 3, none⟩) (Nat.le_refl _) (.slice none 0 0)
      obtain ⟨x3, hW⟩ : ∃ W, x2.setCell ⟨g, 3, none⟩ (.slice none 0 0) = W := ⟨_, rfl⟩
      rw [hW] at hm hs1 hs2 hs3 ⊢
      refine hK (fun b o => b = g ∧ (o = 3 ∨ o = 8)) _ _ (fun b o h => .inl h) hm ?_
      have HB1 := Lib.hid hs1
      have HB2 := Lib.hid hs2
      have HB := Lib.hid hs3
      clear q4 z4 l4 hm hs1 hs2 hs3 hW
      clear hK K
      try simp only [Act.put, List.setIfInBounds_toArray, List.set_cons_zero, List.set_cons_succ]
      refine rgc_t (v := ?_) (some 20) 15 (by kernel_rfl) rfl rfl (.inl ⟨by rfl, fun w' q => ?_⟩) ?_
      rotate_left
      · go_simp <;> with_reducible rfl
      try simp only [Act.put, List.setIfInBounds_toArray, List.set_cons_zero, List.set_cons_succ]
      refine rgc_t (v := ?_) (some 21) 16 (by kernel_rfl) rfl rfl (.inl ⟨by rfl, fun w' q => ?_⟩) ?_
      rotate_left
      · go_simp <;> with_reducible rfl
      try simp only [Act.put, List.setIfInBounds_toArray, List.set_cons_zero, List.set_cons_succ]
      refine rgc_1 17 (by kernel_rfl) ?_
      refine ⟨_, rfl, by rfl, fun K hK => ?_⟩
      obtain ⟨q4, z4, l4⟩ := HB1.out
      go_simp
      have hm : MemC (fun b o => b = g ∧ (o = 3 ∨ o = 8)) x3 (x3.setCell ⟨g, 8, none⟩ (.slice none 0 0)) := (MemC.refl (fun b o => b = g ∧ (o = 3 ∨ o = 8)) x3).of_set ⟨rfl, .inr rfl⟩
      have hs1 := HB1.out.set (k := 8) (v := .slice none 0 0) (by simp) rfl
      have hs2 := HB2.out.chx (ChX.of_set (X := fun i => i = g) (g := g) (k := 8) (v := .slice none 0 0) rfl) hg3
      have hs3 := HB.out.setCell (p := ⟨g, 8, none⟩) (Nat.le_refl _) (.slice none 0 0)
      obtain ⟨x4, hW⟩ : ∃ W, x3.setCell ⟨g, 8, none⟩ (.slice none 0 0) = W := ⟨_, rfl⟩
      rw [hW] at hm hs1 hs2 hs3 ⊢
      refine hK (fun b o => b = g ∧ (o = 3 ∨ o = 8)) _ _ (fun b o h => .inl h) hm ?_
      have HB1 := Lib.hid hs1
      have HB2 := Lib.hid hs2
      have HB := Lib.hid hs3
      clear q4 z4 l4 hm hs1 hs2 hs3 hW
      clear hK K
      try simp only [Act.put, List.setIfInBounds_toArray, List.set_cons_zero, List.set_cons_succ]
      refine rgc_d (by kernel_rfl) ?_
      go_wp2_with fail
      go_meet
      case rel => exact ⟨HB.out, HB1.out, HB2.out⟩
  case rest =>
    obtain ⟨hb, hb1, hb2⟩ := hcut
    have HB := Lib.hid hb
    have HB2 := Lib.hid hb2
    clear hb hb2
    obtain ⟨q1, z1, l1⟩ := hb1
    obtain ⟨q2, z2, l2⟩ := HB2.out
    go_wp2_with fail
    go_loop [27] (fun i => i = .int .i64 0) (fun _ => 0)
    case atStart => rfl
    case round =>
      subst hrel
      go_wp2_with fail
      have hl3 : g ≤ g + 1 := Nat.le_succ g
      have hx := (((((((((HB2.out.set (k := 0) (v := .int .i64 v) (by simp) rfl).set (k := 1) (v := .int .i64 0) (by simp) rfl).set (k := 2) (v := .int .i64 0) (by simp) rfl).set (k := 3) (v := .slice none 0 0) (by simp) rfl).set (k := 4) (v := .int .i64 0) (by simp) rfl).set (k := 5) (v := .int .i64 0) (by simp) rfl).set (k := 6) (v := .bool false) (by simp) rfl).set (k := 7) (v := .int .i64 0) (by simp) rfl).set (k := 8) (v := .slice none 0 0) (by simp) rfl)
      have hbf := (((((((((HB.out.setCell (p := ⟨g + 1, 0, none⟩) hl3 (.int .i64 v)).setCell (p := ⟨g + 1, 1, none⟩) hl3 (.int .i64 0)).setCell (p := ⟨g + 1, 2, none⟩) hl3 (.int .i64 0)).setCell (p := ⟨g + 1, 3, none⟩) hl3 (.slice none 0 0)).setCell (p := ⟨g + 1, 4, none⟩) hl3 (.int .i64 0)).setCell (p := ⟨g + 1, 5, none⟩) hl3 (.int .i64 0)).setCell (p := ⟨g + 1, 6, none⟩) hl3 (.bool false)).setCell (p := ⟨g + 1, 7, none⟩) hl3 (.int .i64 0)).setCell (p := ⟨g + 1, 8, none⟩) hl3 (.slice none 0 0))
      obtain ⟨Wf, hWf⟩ : ∃ W, (((((((((wc.setCell ⟨g + 1, 0, none⟩ (.int .i64 v)).setCell ⟨g + 1, 1, none⟩ (.int .i64 0)).setCell ⟨g + 1, 2, none⟩ (.int .i64 0)).setCell ⟨g + 1, 3, none⟩ (.slice none 0 0)).setCell ⟨g + 1, 4, none⟩ (.int .i64 0)).setCell ⟨g + 1, 5, none⟩ (.int .i64 0)).setCell ⟨g + 1, 6, none⟩ (.bool false)).setCell ⟨g + 1, 7, none⟩ (.int .i64 0)).setCell ⟨g + 1, 8, none⟩ (.slice none 0 0)) = W := ⟨_, rfl⟩
      rw [hWf] at hx hbf ⊢
      clear hWf q2 z2 l2 q1 z1 l1
      obtain ⟨qf, zf, lf⟩ := hx
      exact bodyPost_ret (v := zeroOc v) (by simp [results, Try.results66, go_sem, qf]) rfl ⟨rfl, hbf⟩
set_option maxRecDepth 100000 in
set_option maxHeartbeats 4000000 in
theorem outcome_zero (k : Lk) (g : Nat) (v : Int) (w : World) (hB : Box w g (lkCells { k with ph := 5, o0 := .int .i64 v, o1 := .int .i64 0, o2 := .int .i64 0, o3 := .slice none 0 0, o4 := .int .i64 0, o5 := .int .i64 0, o6 := .bool false, o7 := .int .i64 0, o8 := .slice none 0 0 })) :
    Calls Try.prog 46 #[iptr g] w fun e w' => e = .returned (.tuple #[zeroOc v, .bool true]) ∧ Below w.heap.size w w' := by
  have hb0 : Below w.heap.size w (w.alloc (.cells #[.int .i64 0, .int .i64 0, .int .i64 0, .slice none 0 0, .int .i64 0, .int .i64 0, .bool false, .int .i64 0, .slice none 0 0] 58)) := ext_alloc' (Below.refl _ _) (Below.refl _ _)
  have HB2 := Lib.hid (Box.alloc_ (w := w) (cs := #[.int .i64 0, .int .i64 0, .int .i64 0, .slice none 0 0, .int .i64 0, .int .i64 0, .bool false, .int .i64 0, .slice none 0 0]) (e := 58))
  have HB := Lib.hid hb0
  obtain ⟨q1, z1, l1⟩ := hB.alloc' (.cells #[.int .i64 0, .int .i64 0, .int .i64 0, .slice none 0 0, .int .i64 0, .int .i64 0, .bool false, .int .i64 0, .slice none 0 0] 58)
  simp only [lkCells] at q1
  clear hb0 hB
  go_enter Try.func46, Try.ntmps46
  go_wp2_with fail
  refine (copied_nil v _).mono ?_
  rintro e w2 ⟨rfl, hb2⟩
  have HB := Lib.hid (ext_trans HB.out hb2)
  have HB2 := Lib.hid (HB2.out.below hb2)
  clear q1 z1 l1 hb2
  obtain ⟨q2, z2, l2⟩ := HB2.out
  obtain ⟨g2, hg2⟩ : ∃ g, w.heap.size = g := ⟨_, rfl⟩
  rw [hg2] at HB HB2 q2 z2 l2 ⊢
  go_wp2_with fail
  have hl3 : g2 ≤ g2 := Nat.le_refl _
  have hx := (((((((((HB2.out.set (k := 0) (v := .int .i64 v) (by simp) rfl).set (k := 1) (v := .int .i64 0) (by simp) rfl).set (k := 2) (v := .int .i64 0) (by simp) rfl).set (k := 3) (v := .slice none 0 0) (by simp) rfl).set (k := 4) (v := .int .i64 0) (by simp) rfl).set (k := 5) (v := .int .i64 0) (by simp) rfl).set (k := 6) (v := .bool false) (by simp) rfl).set (k := 7) (v := .int .i64 0) (by simp) rfl).set (k := 8) (v := .slice none 0 0) (by simp) rfl)
  have hbf := (((((((((HB.out.setCell (p := ⟨g2, 0, none⟩) hl3 (.int .i64 v)).setCell (p := ⟨g2, 1, none⟩) hl3 (.int .i64 0)).setCell (p := ⟨g2, 2, none⟩) hl3 (.int .i64 0)).setCell (p := ⟨g2, 3, none⟩) hl3 (.slice none 0 0)).setCell (p := ⟨g2, 4, none⟩) hl3 (.int .i64 0)).setCell (p := ⟨g2, 5, none⟩) hl3 (.int .i64 0)).setCell (p := ⟨g2, 6, none⟩) hl3 (.bool false)).setCell (p := ⟨g2, 7, none⟩) hl3 (.int .i64 0)).setCell (p := ⟨g2, 8, none⟩) hl3 (.slice none 0 0))
  obtain ⟨Wf, hWf⟩ : ∃ W, (((((((((w2.setCell ⟨g2, 0, none⟩ (.int .i64 v)).setCell ⟨g2, 1, none⟩ (.int .i64 0)).setCell ⟨g2, 2, none⟩ (.int .i64 0)).setCell ⟨g2, 3, none⟩ (.slice none 0 0)).setCell ⟨g2, 4, none⟩ (.int .i64 0)).setCell ⟨g2, 5, none⟩ (.int .i64 0)).setCell ⟨g2, 6, none⟩ (.bool false)).setCell ⟨g2, 7, none⟩ (.int .i64 0)).setCell ⟨g2, 8, none⟩ (.slice none 0 0)) = W := ⟨_, rfl⟩
  rw [hWf] at hx hbf ⊢
  clear hWf q2 z2 l2
  obtain ⟨qf, zf, lf⟩ := hx
  refine bodyPost_ret (v := .tuple #[zeroOc v, .bool true]) (by simp [results, Try.results46, go_sem, qf]) rfl ⟨rfl, by rw [hg2]; exact hbf⟩
end Go.Proofs.Ytoliplochipoeaa


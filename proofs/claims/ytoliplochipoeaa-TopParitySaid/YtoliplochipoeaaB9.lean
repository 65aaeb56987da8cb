import Derived.Test.YtoliplochipoeaaB8
/- Layer 19: a link in memory; New. -/
set_option linter.unusedVariables false
set_option linter.unusedSimpArgs false
namespace Go.Proofs.Ytoliplochipoeaa
open Go.RowKit

/-- A link's state: setting, retries, timeout, drain; phase, unit, request, frame; now, end, until, last; receiver, attempts, seen; outcome. -/
structure Lk where
  b : Int
  p : Int
  R : Int
  T : Int
  D : Int
  ph : Int
  un : Int
  f : Int
  a : Int
  n : Int
  c : Int
  o : Int
  fr : Value
  now : Int
  en : Int
  unt : Int
  la : Int
  rc : Value
  att : Int
  sn : Value
  o0 : Value
  o1 : Value
  o2 : Value
  o3 : Value
  o4 : Value
  o5 : Value
  o6 : Value
  o7 : Value
  o8 : Value
def lkCells (k : Lk) : Array Value := #[.int .i64 k.b, .int .i64 k.p, .int .i64 k.R, .int .i64 k.T, .int .i64 k.D, .int .i64 k.ph, .int .i64 k.un, .int .i64 k.f, .int .i64 k.a, .int .i64 k.n, .int .i64 k.c, .int .i64 k.o,
  k.fr, .int .i64 k.now, .int .i64 k.en, .int .i64 k.unt, .int .i64 k.la, k.rc, .int .i64 k.att, k.sn, k.o0, k.o1, k.o2, k.o3, k.o4, k.o5, k.o6, k.o7, k.o8]
def newLk (b p R T D : Int) : Lk := ⟨b, p, R, T, D, 0, 0, 0, 0, 0, 0, 0, .slice none 0 0, 0, 0, 0, 0, .pointer none, 0, .slice none 0 0, .int .i64 0, .int .i64 0, .int .i64 0, .slice none 0 0, .int .i64 0, .int .i64 0, .bool false, .int .i64 0, .slice none 0 0⟩
/-- The link k lies in block g of w, which is w0 but for the blocks X. -/
def LB (X : Nat → Prop) (w0 w : World) (g : Nat) (k : Lk) : Prop := Box w g (lkCells k) ∧ ChX X w0 w
section
variable {X : Nat → Prop} {w0 w w' : World} {g : Nat} {k : Lk}
theorem LB.below (h : LB X w0 w g k) (hb : Below w.heap.size w w') : LB X w0 w' g k := ⟨h.1.below hb, h.2.below hb⟩
theorem LB.drew (h : LB X w0 w g k) : LB X w0 w.drew g k := h
theorem LB.set1 {j : Nat} {v : Value} {k' : Lk} (h : LB X w0 w g k) (hx : X g) (hj : j < 29) (e : (lkCells k).setIfInBounds j v = lkCells k') : LB X w0 (w.setCell ⟨g, j, none⟩ v) g k' := ⟨h.1.set (by simpa [lkCells] using hj) e, h.2.set (fun _ => hx)⟩
theorem LB.sPh (h : LB X w0 w g k) (hx : X g) (v : Int) : LB X w0 (w.setCell ⟨g, 5, none⟩ (.int .i64 v)) g { k with ph := v } := h.set1 hx (by decide) rfl
theorem LB.sUn (h : LB X w0 w g k) (hx : X g) (v : Int) : LB X w0 (w.setCell ⟨g, 6, none⟩ (.int .i64 v)) g { k with un := v } := h.set1 hx (by decide) rfl
theorem LB.sF (h : LB X w0 w g k) (hx : X g) (v : Int) : LB X w0 (w.setCell ⟨g, 7, none⟩ (.int .i64 v)) g { k with f := v } := h.set1 hx (by decide) rfl
theorem LB.sA (h : LB X w0 w g k) (hx : X g) (v : Int) : LB X w0 (w.setCell ⟨g, 8, none⟩ (.int .i64 v)) g { k with a := v } := h.set1 hx (by decide) rfl
theorem LB.sN (h : LB X w0 w g k) (hx : X g) (v : Int) : LB X w0 (w.setCell ⟨g, 9, none⟩ (.int .i64 v)) g { k with n := v } := h.set1 hx (by decide) rfl
theorem LB.sC (h : LB X w0 w g k) (hx : X g) (v : Int) : LB X w0 (w.setCell ⟨g, 10, none⟩ (.int .i64 v)) g { k with c := v } := h.set1 hx (by decide) rfl
theorem LB.sO (h : LB X w0 w g k) (hx : X g) (v : Int) : LB X w0 (w.setCell ⟨g, 11, none⟩ (.int .i64 v)) g { k with o := v } := h.set1 hx (by decide) rfl
theorem LB.sQ (h : LB X w0 w g k) (hx : X g) (f a n c o : Int) : LB X w0 (((((w.setCell ⟨g, 7, none⟩ (.int .i64 f)).setCell ⟨g, 8, none⟩ (.int .i64 a)).setCell ⟨g, 9, none⟩ (.int .i64 n)).setCell ⟨g, 10, none⟩ (.int .i64 c)).setCell ⟨g, 11, none⟩ (.int .i64 o)) g { k with f := f, a := a, n := n, c := c, o := o } :=
  ((((h.sF hx f).sA hx a).sN hx n).sC hx c).sO hx o
theorem LB.sFr (h : LB X w0 w g k) (hx : X g) (v : Value) : LB X w0 (w.setCell ⟨g, 12, none⟩ v) g { k with fr := v } := h.set1 hx (by decide) rfl
theorem LB.sNow (h : LB X w0 w g k) (hx : X g) (v : Int) : LB X w0 (w.setCell ⟨g, 13, none⟩ (.int .i64 v)) g { k with now := v } := h.set1 hx (by decide) rfl
theorem LB.sEn (h : LB X w0 w g k) (hx : X g) (v : Int) : LB X w0 (w.setCell ⟨g, 14, none⟩ (.int .i64 v)) g { k with en := v } := h.set1 hx (by decide) rfl
theorem LB.sUnt (h : LB X w0 w g k) (hx : X g) (v : Int) : LB X w0 (w.setCell ⟨g, 15, none⟩ (.int .i64 v)) g { k with unt := v } := h.set1 hx (by decide) rfl
theorem LB.sLa (h : LB X w0 w g k) (hx : X g) (v : Int) : LB X w0 (w.setCell ⟨g, 16, none⟩ (.int .i64 v)) g { k with la := v } := h.set1 hx (by decide) rfl
theorem LB.sRc (h : LB X w0 w g k) (hx : X g) (v : Value) : LB X w0 (w.setCell ⟨g, 17, none⟩ v) g { k with rc := v } := h.set1 hx (by decide) rfl
theorem LB.sAtt (h : LB X w0 w g k) (hx : X g) (v : Int) : LB X w0 (w.setCell ⟨g, 18, none⟩ (.int .i64 v)) g { k with att := v } := h.set1 hx (by decide) rfl
theorem LB.sSn (h : LB X w0 w g k) (hx : X g) (v : Value) : LB X w0 (w.setCell ⟨g, 19, none⟩ v) g { k with sn := v } := h.set1 hx (by decide) rfl
theorem LB.sOut (h : LB X w0 w g k) (hx : X g) (o0 o1 o2 o3 o4 o5 o6 o7 o8 : Value) : LB X w0 (((((((((w.setCell ⟨g, 20, none⟩ o0).setCell ⟨g, 21, none⟩ o1).setCell ⟨g, 22, none⟩ o2).setCell ⟨g, 23, none⟩ o3).setCell ⟨g, 24, none⟩ o4).setCell ⟨g, 25, none⟩ o5).setCell ⟨g, 26, none⟩ o6).setCell ⟨g, 27, none⟩ o7).setCell ⟨g, 28, none⟩ o8) g { k with o0 := o0, o1 := o1, o2 := o2, o3 := o3, o4 := o4, o5 := o5, o6 := o6, o7 := o7, o8 := o8 } := by
  have h0 := h.set1 (k' := { k with o0 := o0 }) (j := 20) (v := o0) hx (by decide) rfl
  have h1 := h0.set1 (k' := { k with o0 := o0, o1 := o1 }) (j := 21) (v := o1) hx (by decide) rfl
  have h2 := h1.set1 (k' := { k with o0 := o0, o1 := o1, o2 := o2 }) (j := 22) (v := o2) hx (by decide) rfl
  have h3 := h2.set1 (k' := { k with o0 := o0, o1 := o1, o2 := o2, o3 := o3 }) (j := 23) (v := o3) hx (by decide) rfl
  have h4 := h3.set1 (k' := { k with o0 := o0, o1 := o1, o2 := o2, o3 := o3, o4 := o4 }) (j := 24) (v := o4) hx (by decide) rfl
  have h5 := h4.set1 (k' := { k with o0 := o0, o1 := o1, o2 := o2, o3 := o3, o4 := o4, o5 := o5 }) (j := 25) (v := o5) hx (by decide) rfl
  have h6 := h5.set1 (k' := { k with o0 := o0, o1 := o1, o2 := o2, o3 := o3, o4 := o4, o5 := o5, o6 := o6 }) (j := 26) (v := o6) hx (by decide) rfl
  have h7 := h6.set1 (k' := { k with o0 := o0, o1 := o1, o2 := o2, o3 := o3, o4 := o4, o5 := o5, o6 := o6, o7 := o7 }) (j := 27) (v := o7) hx (by decide) rfl
  exact h7.set1 (k' := { k with o0 := o0, o1 := o1, o2 := o2, o3 := o3, o4 := o4, o5 := o5, o6 := o6, o7 := o7, o8 := o8 }) (j := 28) (v := o8) hx (by decide) rfl
end
def PtrBox (P : Nat → World → Prop) (e : Ending) (w' : World) : Prop := ∃ g, e = .returned (.tuple #[iptr g, .int .i64 0]) ∧ P g w'
set_option maxRecDepth 100000 in
set_option maxHeartbeats 4000000 in
theorem lnew_ok (b p R T D dr : Int) (hv : validB b p = true) (hR : 0 ≤ R ∧ R ≤ 5) (hT : 1 ≤ T ∧ T ≤ 5000000) (hD : 0 ≤ D ∧ D ≤ 5000000) (hd : drainZ b p T D = dr) (w : World) :
    Calls Try.prog 41 #[.agg #[.int .i64 b, .int .i64 p], .int .i64 R, .int .i64 T, .int .i64 D] w fun e w' => PtrBox (fun g w' => Box w' g (lkCells (newLk b p R T dr)) ∧ w.heap.size ≤ g ∧ Below w.heap.size w w') e w' := by
  have HV := Lib.hid (fun W => valid_any b p true hv W)
  have HDR := Lib.hid (fun W => drain_any b p T D dr hd W)
  have HW1 := Lib.hid (fun W => (show decide ((0:Int) ≤ R ∧ R ≤ 5) = true by simp [hR]) ▸ within_any R 0 5 W)
  have HW2 := Lib.hid (fun W => (show decide ((1:Int) ≤ T ∧ T ≤ 5000000) = true by simp [hT]) ▸ within_any T 1 5000000 W)
  have HW3 := Lib.hid (fun W => (show decide ((0:Int) ≤ D ∧ D ≤ 5000000) = true by simp [hD]) ▸ within_any D 0 5000000 W)
  have hb0 : Below w.heap.size w (w.alloc (.cells #[.int .i64 b, .int .i64 p] 24)) := (Below.refl _ _).alloc (Nat.le_refl _) _
  have HBs := Lib.hid (Box.alloc_ (w := w) (cs := #[.int .i64 b, .int .i64 p]) (e := 24))
  clear hv hd hR hT hD
  go_enter Try.func41, Try.ntmps41
  go_wp2_with fail
  refine (HV.out _).mono ?_
  rintro e w1 ⟨rfl, hb1⟩
  have hbw := ext_trans hb0 hb1
  have HBs := Lib.hid (HBs.out.below hb1)
  clear hb0 hb1
  go_wp2_with fail
  refine (HW1.out _).mono ?_
  rintro e w' ⟨rfl, rfl⟩
  go_wp2_with fail
  refine (HW2.out _).mono ?_
  rintro e w' ⟨rfl, rfl⟩
  go_wp2_with fail
  refine (HW3.out _).mono ?_
  rintro e w' ⟨rfl, rfl⟩
  go_upto_region 5 with fail
  have hbw2 := below_drew hbw
  obtain ⟨qs, zs, ls⟩ := HBs.out.drew
  obtain ⟨x0, hx0⟩ : ∃ x, w1.drew = x := ⟨_, rfl⟩
  rw [hx0] at qs zs ls hbw2
  have y0 : x0.cell? ⟨w.heap.size, 0, none⟩ = some (.int .i64 b) := qs 0
  have y1 : x0.cell? ⟨w.heap.size, 1, none⟩ = some (.int .i64 p) := qs 1
  have HBW := Lib.hid hbw2
  obtain ⟨bs, hbs⟩ : ∃ b, w.heap.size = b := ⟨_, rfl⟩
  rw [hbs] at y0 y1 ls
  rw [hbs]
  have HBS := Lib.hid hbs
  clear qs zs hbw hbw2 HBs hbs
  refine rgx_start (by kernel_rfl) ?_
  rw [hx0]
  refine rgx_t (v := ?_) (some 28) 0 (by kernel_rfl) rfl rfl (.inl ⟨by rfl, fun w' q => ?_⟩) ?_
  rotate_left
  · go_simp <;> with_reducible rfl
  try simp only [Act.put, List.setIfInBounds_toArray, List.set_cons_zero, List.set_cons_succ]
  refine rgx_t (v := ?_) (some 29) 1 (by kernel_rfl) rfl rfl (.inl ⟨by rfl, fun w' q => ?_⟩) ?_
  rotate_left
  · go_simp <;> with_reducible rfl
  try simp only [Act.put, List.setIfInBounds_toArray, List.set_cons_zero, List.set_cons_succ]
  refine rgx_t (v := ?_) (some 30) 2 (by kernel_rfl) rfl rfl (.inl ⟨by rfl, fun w' q => ?_⟩) ?_
  rotate_left
  · go_simp <;> with_reducible rfl
  try simp only [Act.put, List.setIfInBounds_toArray, List.set_cons_zero, List.set_cons_succ]
  refine rgx_t (v := ?_) (some 31) 3 (by kernel_rfl) rfl rfl (.inl ⟨by rfl, fun w' q => ?_⟩) ?_
  rotate_left
  · go_simp <;> with_reducible rfl
  try simp only [Act.put, List.setIfInBounds_toArray, List.set_cons_zero, List.set_cons_succ]
  refine rgx_t (v := ?_) (some 32) 4 (by kernel_rfl) rfl rfl (.inl ⟨by rfl, fun w' q => ?_⟩) ?_
  rotate_left
  · go_simp <;> with_reducible rfl
  try simp only [Act.put, List.setIfInBounds_toArray, List.set_cons_zero, List.set_cons_succ]
  refine rgx_t (v := ?_) (some 33) 5 (by kernel_rfl) rfl rfl (.inl ⟨by rfl, fun w' q => ?_⟩) ?_
  rotate_left
  · go_simp <;> with_reducible rfl
  try simp only [Act.put, List.setIfInBounds_toArray, List.set_cons_zero, List.set_cons_succ]
  refine rgx_1 6 (by kernel_rfl) ?_
  refine ⟨_, rfl, by rfl, fun K hK => ?_⟩
  go_simp
  refine (HDR.out _).mono ?_
  rintro e x1 ⟨rfl, hb⟩
  have HBW := Lib.hid (ext_trans HBW.out hb)
  refine hK (fun b => False) _ _ (fun b h => .inl h) (Mem.of_below hb) ?_
  clear hb
  clear hK K
  try simp only [Act.put, List.setIfInBounds_toArray, List.set_cons_zero, List.set_cons_succ]
  refine rgx_t (v := ?_) (some 35) 7 (by kernel_rfl) rfl rfl (.inl ⟨by rfl, fun w' q => ?_⟩) ?_
  rotate_left
  · go_simp <;> with_reducible rfl
  try simp only [Act.put, List.setIfInBounds_toArray, List.set_cons_zero, List.set_cons_succ]
  refine rgx_1 8 (by kernel_rfl) ?_
  refine ⟨_, rfl, by rfl, fun K hK => ?_⟩
  go_simp
  have hb := (Below.refl x1.heap.size x1).alloc (Nat.le_refl _) (.cells (lkCells (newLk b p R T dr)) 111)
  have hBg : Box (x1.alloc (.cells (lkCells (newLk b p R T dr)) 111)) x1.heap.size (lkCells (newLk b p R T dr)) := Box.alloc_
  obtain ⟨g, hg⟩ : ∃ g, x1.heap.size = g := ⟨_, rfl⟩
  have hwg : w.heap.size ≤ g := by rw [← hg]; exact HBW.out.size
  have HWG := Lib.hid hwg
  have HBW := Lib.hid (ext_trans HBW.out hb)
  obtain ⟨x2, hW⟩ : ∃ W, x1.alloc (.cells (lkCells (newLk b p R T dr)) 111) = W := ⟨_, rfl⟩
  rw [hW] at HBW hBg hb
  have hW' := hW
  simp only [lkCells, newLk] at hW'
  rw [hW']
  clear hW'
  rw [hg] at hBg ⊢
  have HBG := Lib.hid hBg
  refine hK (fun b => False) _ _ (fun b h => .inl h) (Mem.of_below hb) ?_
  clear hb hBg hwg hW hg
  clear hK K
  try simp only [Act.put, List.setIfInBounds_toArray, List.set_cons_zero, List.set_cons_succ]
  refine rgx_t (v := ?_) (some 8) 9 (by kernel_rfl) rfl rfl (.inl ⟨by rfl, fun w' q => ?_⟩) ?_
  rotate_left
  · go_simp <;> with_reducible rfl
  try simp only [Act.put, List.setIfInBounds_toArray, List.set_cons_zero, List.set_cons_succ]
  refine rgx_t (v := ?_) (some 9) 10 (by kernel_rfl) rfl rfl (.inl ⟨by rfl, fun w' q => ?_⟩) ?_
  rotate_left
  · go_simp <;> with_reducible rfl
  try simp only [Act.put, List.setIfInBounds_toArray, List.set_cons_zero, List.set_cons_succ]
  refine rgx_d (by kernel_rfl) ?_
  go_wp2
  exact bodyPost_ret (v := .tuple #[iptr g, .int .i64 0]) (by simp [results, Try.results41, go_sem]) rfl ⟨g, rfl, HBG.out, HWG.out, HBW.out⟩
end Go.Proofs.Ytoliplochipoeaa

/- Layer 19: Begin of a fresh link. -/
set_option linter.unusedVariables false
set_option linter.unusedSimpArgs false
namespace Go.Proofs.Ytoliplochipoeaa
open Go.RowKit

theorem encL_bdK {f a n c o : Int} (h : vq f a n c o = true) : (∀ x ∈ encL f a n c o, 0 ≤ x ∧ x ≤ 255) ∧ 1 ≤ (encL f a n c o).length ∧ (encL f a n c o).length ≤ 5 := by
  rcases vq_cases h with ⟨rfl, _⟩ | ⟨rfl, h1, h2, h3, h4, _⟩ | ⟨h1, h2, h3, h4, h5, h6, h7, _⟩
  · simp [encL]
  · simp [encL]; omega
  · have e1 : ¬ f = 17 := by omega
    have e2 : ¬ f = 43 := by omega
    simp [encL, e1, e2]; omega
/-- What Begin leaves. -/
def LBegun (X : Nat → Prop) (w : World) (g : Nat) (k : Lk) (u f a n c o t : Int) (e : Ending) (w' : World) : Prop :=
  ∃ A m cap, e = .returned (.int .i64 0) ∧ LB X w w' g { k with un := u, f := f, a := a, n := n, c := c, o := o, fr := .slice A m cap, now := t, att := 0, sn := .slice none 0 0, o0 := .int .i64 0, o1 := .int .i64 0, o2 := .int .i64 0, o3 := .slice none 0 0, o4 := .int .i64 0, o5 := .int .i64 0, o6 := .bool false, o7 := .int .i64 0, o8 := .slice none 0 0, ph := 1 } ∧
    w'.ownsRow w.heap.size 5 1 (.slice A m cap) m (by8 (frameL u (encL f a n c o)))
set_option maxRecDepth 100000 in
set_option maxHeartbeats 8000000 in
theorem lbegin_ok (X : Nat → Prop) (k : Lk) (g : Nat) (u f a n c o t : Int) (w : World) (hB : Box w g (lkCells k)) (hx : X g) (hph : k.ph = 0) (hu : 1 ≤ u ∧ u ≤ 247) (ht : k.now ≤ t ∧ t ≤ 1152921504606846976) (hq : vq f a n c o = true) :
    Calls Try.prog 42 #[iptr g, .int .i64 u, qv f a n c o, .int .i64 t] w (LBegun X w g k u f a n c o t) := by
  have HQ := Lib.hid (fun W => hq ▸ qvalid_any f a n c o W)
  have HEN := Lib.hid (fun W => enc_yes f a n c o hq W)
  obtain ⟨hbd, hl1, hl2⟩ := encL_bdK hq
  obtain ⟨pl, hpl⟩ : ∃ p, encL f a n c o = p := ⟨_, rfl⟩
  rw [hpl] at HEN hbd hl1 hl2
  have HBU := Lib.hid (fun (W : World) (A : Option Addr) (m : Nat) (hm : m = pl.length) (hr : Rd W W.heap.size 1 A m (by8 pl)) => aduBuild_any u pl A m m W hu hr hbd (by omega) (by omega))
  have HW1 := Lib.hid (fun W => (show decide ((1:Int) ≤ u ∧ u ≤ 247) = true by simp [hu]) ▸ within_any u 1 247 W)
  have HW2 := Lib.hid (fun W => (show decide (k.now ≤ t ∧ t ≤ 1152921504606846976) = true by simp [ht]) ▸ within_any t k.now 1152921504606846976 W)
  have h0 : LB X w (w.alloc (.cells #[.int .i64 f, .int .i64 a, .int .i64 n, .int .i64 c, .int .i64 o] 29)) g k := ⟨hB.alloc' _, ChX.of_below ((Below.refl _ _).alloc (Nat.le_refl _) _)⟩
  have HLB := Lib.hid h0
  have HBs := Lib.hid (Box.alloc_ (w := w) (cs := #[.int .i64 f, .int .i64 a, .int .i64 n, .int .i64 c, .int .i64 o]) (e := 29))
  have hgs : g < w.heap.size := hB.2.2
  have y5 : (w.alloc (.cells #[.int .i64 f, .int .i64 a, .int .i64 n, .int .i64 c, .int .i64 o] 29)).cell? ⟨g, 5, none⟩ = some (.int .i64 0) := by rw [h0.1.1 5]; simp [lkCells, hph]
  have y13 : (w.alloc (.cells #[.int .i64 f, .int .i64 a, .int .i64 n, .int .i64 c, .int .i64 o] 29)).cell? ⟨g, 13, none⟩ = some (.int .i64 k.now) := by rw [h0.1.1 13]; simp [lkCells]
  have HPL := Lib.hid hpl
  have HX := Lib.hid hx
  clear hB h0 hq hu ht hbd hl1 hl2 hpl hph hx
  go_enter Try.func42, Try.ntmps42
  go_upto_region 1 with fail
  obtain ⟨w0, hw0⟩ : ∃ W, w.alloc (.cells #[.int .i64 f, .int .i64 a, .int .i64 n, .int .i64 c, .int .i64 o] 29) = W := ⟨_, rfl⟩
  rw [hw0] at y5 y13 HLB HBs ⊢
  obtain ⟨bs, hbs⟩ : ∃ b, w.heap.size = b := ⟨_, rfl⟩
  have HNE := Lib.hid (show bs ≠ g by omega)
  have HGS := Lib.hid hgs
  rw [hbs] at HBs ⊢
  have HBS := Lib.hid hbs
  clear hw0 hbs hgs
  obtain ⟨qs, zs, ls⟩ := HBs.out
  go_wp2_with fail
  refine (HW1.out _).mono ?_
  rintro e w' ⟨rfl, rfl⟩
  go_wp2_with fail
  refine (HW2.out _).mono ?_
  rintro e w' ⟨rfl, rfl⟩
  go_wp2_with fail
  refine (HQ.out _).mono ?_
  rintro e w1 ⟨rfl, hb1⟩
  have HLB := Lib.hid (HLB.out.below hb1)
  have HBs := Lib.hid (HBs.out.below hb1)
  clear y5 y13 qs zs ls hb1
  obtain ⟨qs, zs, ls⟩ := HBs.out
  go_wp2_with fail
  refine (HEN.out _).mono ?_
  rintro e w2 ⟨A1, m1, rfl, hm1, hr1, hb2⟩
  have HLB := Lib.hid (HLB.out.below hb2)
  have HBs := Lib.hid (HBs.out.below hb2)
  have HR1 := Lib.hid hr1
  have HM1 := Lib.hid hm1
  clear qs zs ls hb2 hr1 hm1
  obtain ⟨qs, zs, ls⟩ := HBs.out
  go_wp2_with fail
  refine (HBU.out _ A1 m1 HM1.out HR1.out).mono ?_
  rintro e w3 ⟨v, rfl, hown, hb3⟩
  obtain ⟨A2, c2, rfl, _, _⟩ := own_form hown
  have HOW := Lib.hid (own_mono hown HLB.out.2.size)
  have HLB := Lib.hid (HLB.out.below hb3)
  have HBs := Lib.hid (HBs.out.below hb3)
  clear qs zs ls hb3 hown
  have HL3 := Lib.hid (show LB (fun i => i = g) w3 w3 g k from ⟨HLB.out.1, ChX.refl _ _⟩)
  have hgb := HLB.out.1.2.2
  obtain ⟨q, z, l⟩ := HLB.out.1
  go_upto_region 11 with fail
  have HL3 := Lib.hid (HL3.out.sFr rfl (.slice A2 (m1 + 3) c2)).drew
  have HBs := Lib.hid (HBs.out.chx (ChX.of_set (X := fun i => i = g) (g := g) (v := .slice A2 (m1 + 3) c2) (k := 12) rfl) HNE.out).drew
  obtain ⟨x0, hx0⟩ : ∃ x, (w3.setCell ⟨g, 12, none⟩ (.slice A2 (m1 + 3) c2)).drew = x := ⟨_, rfl⟩
  rw [hx0] at HL3 HBs
  clear q z l hgb
  have hne : ¬ bs = g := HNE.out
  obtain ⟨qs, zs, ls⟩ := HBs.out
  have y0 : x0.cell? ⟨bs, 0, none⟩ = some (.int .i64 f) := qs 0
  have y1 : x0.cell? ⟨bs, 1, none⟩ = some (.int .i64 a) := qs 1
  have y2 : x0.cell? ⟨bs, 2, none⟩ = some (.int .i64 n) := qs 2
  have y3 : x0.cell? ⟨bs, 3, none⟩ = some (.int .i64 c) := qs 3
  have y4 : x0.cell? ⟨bs, 4, none⟩ = some (.int .i64 o) := qs 4
  clear qs zs
  refine rgx_start_x (X := fun b => b = g) (by kernel_rfl) ?_
  rw [hx0]
  refine rgx_t (v := ?_) (some 58) 0 (by kernel_rfl) rfl rfl (.inl ⟨by rfl, fun w' q => ?_⟩) ?_
  rotate_left
  · go_simp <;> with_reducible rfl
  try simp only [Act.put, List.setIfInBounds_toArray, List.set_cons_zero, List.set_cons_succ]
  refine rgx_t (v := ?_) (some 59) 1 (by kernel_rfl) rfl rfl (.inl ⟨by rfl, fun w' q => ?_⟩) ?_
  rotate_left
  · go_simp <;> with_reducible rfl
  try simp only [Act.put, List.setIfInBounds_toArray, List.set_cons_zero, List.set_cons_succ]
  refine rgx_t (v := ?_) (some 60) 2 (by kernel_rfl) rfl rfl (.inl ⟨by rfl, fun w' q => ?_⟩) ?_
  rotate_left
  · go_simp <;> with_reducible rfl
  try simp only [Act.put, List.setIfInBounds_toArray, List.set_cons_zero, List.set_cons_succ]
  refine rgx_t (v := ?_) (some 61) 3 (by kernel_rfl) rfl rfl (.inl ⟨by rfl, fun w' q => ?_⟩) ?_
  rotate_left
  · go_simp <;> with_reducible rfl
  try simp only [Act.put, List.setIfInBounds_toArray, List.set_cons_zero, List.set_cons_succ]
  refine rgx_t (v := ?_) (some 62) 4 (by kernel_rfl) rfl rfl (.inl ⟨by rfl, fun w' q => ?_⟩) ?_
  rotate_left
  · go_simp <;> with_reducible rfl
  try simp only [Act.put, List.setIfInBounds_toArray, List.set_cons_zero, List.set_cons_succ]
  refine rgx_t (v := ?_) (some 63) 5 (by kernel_rfl) rfl rfl (.inl ⟨by rfl, fun w' q => ?_⟩) ?_
  rotate_left
  · go_simp <;> with_reducible rfl
  try simp only [Act.put, List.setIfInBounds_toArray, List.set_cons_zero, List.set_cons_succ]
  refine rgx_t (v := ?_) (some 64) 6 (by kernel_rfl) rfl rfl (.inl ⟨by rfl, fun w' q => ?_⟩) ?_
  rotate_left
  · go_simp <;> with_reducible rfl
  try simp only [Act.put, List.setIfInBounds_toArray, List.set_cons_zero, List.set_cons_succ]
  refine rgx_t (v := ?_) (some 65) 7 (by kernel_rfl) rfl rfl (.inl ⟨by rfl, fun w' q => ?_⟩) ?_
  rotate_left
  · go_simp <;> with_reducible rfl
  try simp only [Act.put, List.setIfInBounds_toArray, List.set_cons_zero, List.set_cons_succ]
  refine rgx_1 8 (by kernel_rfl) ?_
  refine ⟨_, rfl, by rfl, fun K hK => ?_⟩
  obtain ⟨q4, z4, l4⟩ := HL3.out.1
  unfold lkCells at q4
  go_simp
  have hLs := HL3.out.sUn rfl u
  have hm : Mem (fun b => b = g) x0 (x0.setCell ⟨g, 6, none⟩ (.int .i64 u)) := (Mem.refl (fun b => b = g) x0).of_set rfl
  obtain ⟨x1, hW⟩ : ∃ W, (x0.setCell ⟨g, 6, none⟩ (.int .i64 u)) = W := ⟨_, rfl⟩
  rw [hW] at hLs hm ⊢
  refine hK (fun b => b = g) _ _ (fun b h => .inl h) hm ?_
  have HL3 := Lib.hid hLs
  clear q4 z4 l4 hm hLs hW
  clear hK K
  try simp only [Act.put, List.setIfInBounds_toArray, List.set_cons_zero, List.set_cons_succ]
  refine rgx_t (v := ?_) (some 66) 9 (by kernel_rfl) rfl rfl (.inl ⟨by rfl, fun w' q => ?_⟩) ?_
  rotate_left
  · go_simp <;> with_reducible rfl
  try simp only [Act.put, List.setIfInBounds_toArray, List.set_cons_zero, List.set_cons_succ]
  refine rgx_t (v := ?_) (some 67) 10 (by kernel_rfl) rfl rfl (.inl ⟨by rfl, fun w' q => ?_⟩) ?_
  rotate_left
  · go_simp <;> with_reducible rfl
  try simp only [Act.put, List.setIfInBounds_toArray, List.set_cons_zero, List.set_cons_succ]
  refine rgx_1 11 (by kernel_rfl) ?_
  refine ⟨_, rfl, by rfl, fun K hK => ?_⟩
  obtain ⟨q4, z4, l4⟩ := HL3.out.1
  unfold lkCells at q4
  go_simp
  have hLs := HL3.out.sQ rfl f a n c o
  have hm : Mem (fun b => b = g) x1 (((((x1.setCell ⟨g, 7, none⟩ (.int .i64 f)).setCell ⟨g, 8, none⟩ (.int .i64 a)).setCell ⟨g, 9, none⟩ (.int .i64 n)).setCell ⟨g, 10, none⟩ (.int .i64 c)).setCell ⟨g, 11, none⟩ (.int .i64 o)) := (((((Mem.refl (fun b => b = g) x1).of_set rfl).of_set rfl).of_set rfl).of_set rfl).of_set rfl
  obtain ⟨x2, hW⟩ : ∃ W, (((((x1.setCell ⟨g, 7, none⟩ (.int .i64 f)).setCell ⟨g, 8, none⟩ (.int .i64 a)).setCell ⟨g, 9, none⟩ (.int .i64 n)).setCell ⟨g, 10, none⟩ (.int .i64 c)).setCell ⟨g, 11, none⟩ (.int .i64 o)) = W := ⟨_, rfl⟩
  rw [hW] at hLs hm ⊢
  refine hK (fun b => b = g) _ _ (fun b h => .inl h) hm ?_
  have HL3 := Lib.hid hLs
  clear q4 z4 l4 hm hLs hW
  clear hK K
  try simp only [Act.put, List.setIfInBounds_toArray, List.set_cons_zero, List.set_cons_succ]
  refine rgx_t (v := ?_) (some 68) 12 (by kernel_rfl) rfl rfl (.inl ⟨by rfl, fun w' q => ?_⟩) ?_
  rotate_left
  · go_simp <;> with_reducible rfl
  try simp only [Act.put, List.setIfInBounds_toArray, List.set_cons_zero, List.set_cons_succ]
  refine rgx_t (v := ?_) (some 69) 13 (by kernel_rfl) rfl rfl (.inl ⟨by rfl, fun w' q => ?_⟩) ?_
  rotate_left
  · go_simp <;> with_reducible rfl
  try simp only [Act.put, List.setIfInBounds_toArray, List.set_cons_zero, List.set_cons_succ]
  refine rgx_1 14 (by kernel_rfl) ?_
  refine ⟨_, rfl, by rfl, fun K hK => ?_⟩
  obtain ⟨q4, z4, l4⟩ := HL3.out.1
  unfold lkCells at q4
  go_simp
  have hLs := HL3.out.sNow rfl t
  have hm : Mem (fun b => b = g) x2 (x2.setCell ⟨g, 13, none⟩ (.int .i64 t)) := (Mem.refl (fun b => b = g) x2).of_set rfl
  obtain ⟨x3, hW⟩ : ∃ W, (x2.setCell ⟨g, 13, none⟩ (.int .i64 t)) = W := ⟨_, rfl⟩
  rw [hW] at hLs hm ⊢
  refine hK (fun b => b = g) _ _ (fun b h => .inl h) hm ?_
  have HL3 := Lib.hid hLs
  clear q4 z4 l4 hm hLs hW
  clear hK K
  try simp only [Act.put, List.setIfInBounds_toArray, List.set_cons_zero, List.set_cons_succ]
  refine rgx_d (by kernel_rfl) ?_
  obtain ⟨q4, z4, l4⟩ := HL3.out.1
  unfold lkCells at q4
  go_wp2
  go_ret
  have HF := ((((HL3.out.sAtt rfl 0).sSn rfl (.slice none 0 0)).sOut rfl (.int .i64 0) (.int .i64 0) (.int .i64 0) (.slice none 0 0) (.int .i64 0) (.int .i64 0) (.bool false) (.int .i64 0) (.slice none 0 0)).sPh rfl 1)
  exact ⟨A2, m1 + 3, c2, rfl, ⟨HF.1, HLB.out.2.trans HF.2 (fun i _ e => by rw [show i = g from e]; exact HX.out)⟩, by rw [HPL.out]; exact own_chx HOW.out HF.2 (fun b hb e => by have h1 := (HOW.out.lt b hb).1; have h2 := HGS.out; have h3 : b = g := e; omega)⟩
end Go.Proofs.Ytoliplochipoeaa

/- A region that draws its order, walked over all orders of what makes memory or writes: every later world keeps the cells that are there, but for the cells X that the region itself writes. -/
set_option linter.unusedVariables false
set_option linter.unusedSimpArgs false
namespace Go.Proofs.Ytoliplochipoeaa
open Go.RowKit

/-- w' is w with new blocks, and with writes to the cells X. -/
def MemC (X : Nat → Nat → Prop) (w w' : World) : Prop := w.heap.size ≤ w'.heap.size ∧ ∀ b o, b < w.heap.size → ¬ X b o → w'.cell? ⟨b, o, none⟩ = w.cell? ⟨b, o, none⟩
theorem MemC.refl (X : Nat → Nat → Prop) (w : World) : MemC X w w := ⟨Nat.le_refl _, fun _ _ _ _ => rfl⟩
theorem MemC.of_below {X : Nat → Nat → Prop} {w w' : World} (h : Below w.heap.size w w') : MemC X w w' := ⟨h.size, fun b o hb _ => h.cell (p := ⟨b, o, none⟩) hb⟩
theorem MemC.of_set {X : Nat → Nat → Prop} {w w' : World} {g k : Nat} {v : Value} (h : MemC X w w') (hg : X g k) : MemC X w (w'.setCell ⟨g, k, none⟩ v) :=
  ⟨by simpa [World.setCell] using h.1, fun b o hb hn => (World.cell?_setCell_other _ _ _ _ (by intro e; injection e with e1 e2; subst e1 e2; exact hn hg)).trans (h.2 b o hb hn)⟩
theorem MemC.of_grown {X : Nat → Nat → Prop} {w w' : World} {row : Option Nat} (h : w.grownBy w' row) (hr : ∀ b, row = some b → ∀ o, X b o) : MemC X w w' :=
  ⟨h.size, fun b o hb hn => World.cell?_of_block (a := ⟨b, o, none⟩) (h.block b hb (fun e => hn (hr b e.symm o)))⟩
theorem MemC.of_chx {X : Nat → Nat → Prop} {Y : Nat → Prop} {w w' : World} (h : ChX Y w w') (hr : ∀ b, Y b → ∀ o, X b o) : MemC X w w' :=
  ⟨h.size, fun b o hb hn => World.cell?_of_block (a := ⟨b, o, none⟩) (h.block hb (fun e => hn (hr b e o)))⟩
theorem MemC.next {X X' : Nat → Nat → Prop} {w w' w'' : World} (h : MemC X w w') (hX : ∀ b o, X' b o → X b o ∨ w.heap.size ≤ b) (h' : MemC X' w' w'') : MemC X w w'' :=
  ⟨Nat.le_trans h.1 h'.1, fun b o hb hn => (h'.2 b o (Nat.lt_of_lt_of_le hb h.1) (fun k => (hX b o k).elim hn (fun j => by omega))).trans (h.2 b o hb hn)⟩
/-- What is left of a region. -/
def RgC (P : Program) (X : Nat → Nat → Prop) (ops : Array Oper) (Q : Exit → Act → World → Prop) (fuel : Nat) (listed : Array Bool) (a : Act) (w : World) : Prop := RgS P (MemC X w) ops Q fuel listed a w

section
variable {P : Program} {ops : Array Oper} {Q : Exit → Act → World → Prop} {X : Nat → Nat → Prop}
theorem rgc_start {X : Nat → Nat → Prop} {id : Nat} {a : Act} {w : World} (hm : P.follows .mixedOrders = true) (h : RgC P X ops Q ops.size (Array.replicate ops.size false) a w.drew) : (Code.region id ops true).wp P Q a w :=
  rgs_start _ hm h
/-- Operation i only reads (or its guard says no): it is taken now. -/
theorem rgc_t (d : Option Tmp) (i : Nat) {oi : Oper} {v : Value} {fuel : Nat} {listed : Array Bool} {a : Act} {w : World}
    (hc : (Region.noSelect ops && Region.free .any ops listed i && (Region.ready .any ops listed).contains i) = true) (hi : ops[i]? = some oi) (hd : oi.dst = d)
    (hy : (Region.wanted oi (yielded ops a.tmps) = true ∧ ∀ w', (∀ b o, b < w.heap.size → ¬ X b o → w'.cell? ⟨b, o, none⟩ = w.cell? ⟨b, o, none⟩) → (execOp a.eval oi).run P w' = .ok (.value v) w') ∨ (Region.wanted oi (yielded ops a.tmps) = false ∧ v = undef))
    (h : RgC P X ops Q fuel (listed.setIfInBounds i true) (a.put d v) w) : RgC P X ops Q (fuel + 1) listed a w := by
  refine rgs_t d i hc hi hd (MemC.refl X w) ?_ h
  rcases hy with ⟨h1, h2⟩ | h2
  · exact .inl ⟨h1, fun w' hw => h2 w' hw.2⟩
  · exact .inr h2
/-- Operation i is a call that leaves the world as it is: it is taken now. -/
theorem rgc_q (d : Option Tmp) (i : Nat) {oi : Oper} {v : Value} {fuel : Nat} {listed : Array Bool} {a : Act} {w : World}
    (hc : (Region.noSelect ops && Region.free .any ops listed i && (Region.ready .any ops listed).contains i) = true) (hi : ops[i]? = some oi) (hd : oi.dst = d)
    (hw : Region.wanted oi (yielded ops a.tmps) = true) (hy : ∀ w', MemC X w w' → ∀ K : Act → World → Prop, K (a.put d v) w' → oi.wp P a w' K (QNS Q))
    (h : RgC P X ops Q fuel (listed.setIfInBounds i true) (a.put d v) w) : RgC P X ops Q (fuel + 1) listed a w :=
  rgs_q d i hc hi hd (MemC.refl X w) hw hy h
/-- One of the operations that may come up. -/
def ComesC (P : Program) (X : Nat → Nat → Prop) (ops : Array Oper) (Q : Exit → Act → World → Prop) (fuel : Nat) (listed : Array Bool) (a : Act) (w : World) (i : Nat) : Prop :=
  ∃ oi, ops[i]? = some oi ∧ Region.wanted oi (yielded ops a.tmps) = true ∧
    ∀ K : Act → World → Prop, (∀ (X' : Nat → Nat → Prop) a' w', (∀ b o, X' b o → X b o ∨ w.heap.size ≤ b) → MemC X w w' → RgC P X' ops Q fuel (listed.setIfInBounds i true) a' w' → K a' w') → oi.wp P a w K (QNS Q)
theorem rgc_comes {rs : List Nat} {fuel : Nat} {listed : Array Bool} {a : Act} {w : World} (hr : Region.ready .any ops listed = rs) (hne : rs ≠ []) (h : ∀ i ∈ rs, ComesC P X ops Q fuel listed a w i) : RgC P X ops Q (fuel + 1) listed a w := by
  refine wpAnyH_all hr hne (fun j hj => ?_)
  obtain ⟨oi, hi, hw, h⟩ := h j hj
  unfold wpOp
  simp only [hi, hw, if_true]
  exact .inl (h _ fun X' a' w' hX hm hR => ⟨hm, rgs_weaken (fun w'' k => hm.next hX k) _ _ _ _ hR⟩)
theorem rgc_1 (i : Nat) {fuel : Nat} {listed : Array Bool} {a : Act} {w : World} (hr : Region.ready .any ops listed = [i]) (h : ComesC P X ops Q fuel listed a w i) : RgC P X ops Q (fuel + 1) listed a w :=
  rgc_comes hr (by simp) (fun j hj => by obtain rfl : j = i := by simpa using hj
                                         exact h)
theorem rgc_2 (i k : Nat) {fuel : Nat} {listed : Array Bool} {a : Act} {w : World} (hr : Region.ready .any ops listed = [i, k]) (h : ComesC P X ops Q fuel listed a w i) (h2 : ComesC P X ops Q fuel listed a w k) : RgC P X ops Q (fuel + 1) listed a w :=
  rgc_comes hr (by simp) (fun j hj => by
    rcases (by simpa using hj : j = i ∨ j = k) with rfl | rfl
    · exact h
    · exact h2)
theorem rgc_3 (i k l : Nat) {fuel : Nat} {listed : Array Bool} {a : Act} {w : World} (hr : Region.ready .any ops listed = [i, k, l]) (h : ComesC P X ops Q fuel listed a w i) (h2 : ComesC P X ops Q fuel listed a w k) (h3 : ComesC P X ops Q fuel listed a w l) : RgC P X ops Q (fuel + 1) listed a w :=
  rgc_comes hr (by simp) (fun j hj => by
    rcases (by simpa using hj : j = i ∨ j = k ∨ j = l) with rfl | rfl | rfl
    · exact h
    · exact h2
    · exact h3)
theorem rgc_d {fuel : Nat} {listed : Array Bool} {a : Act} {w : World} (hr : Region.ready .any ops listed = []) (h : Q .normal a w) : RgC P X ops Q fuel listed a w :=
  wpAnyH_done hr ⟨rfl, h⟩ _
end
end Go.Proofs.Ytoliplochipoeaa

/- Layer 19: Action, listens, Sent. -/
set_option linter.unusedVariables false
set_option linter.unusedSimpArgs false
namespace Go.Proofs.Ytoliplochipoeaa
open Go.RowKit

theorem LB.cell {X : Nat → Prop} {w0 w : World} {g : Nat} {k : Lk} (h : LB X w0 w g k) (i : Nat) : w.cell? ⟨g, i, none⟩ = (lkCells k)[i]? := h.1.1 i
theorem below_put3 {w0 w : World} {B b : Nat} (h : Below B w0 w) (hb : B ≤ b) (v0 v1 v2 : Value) : Below B w0 (((w.setCell ⟨b, 0, none⟩ v0).setCell ⟨b, 1, none⟩ v1).setCell ⟨b, 2, none⟩ v2) :=
  ((h.setCell (p := ⟨b, 0, none⟩) hb v0).setCell (p := ⟨b, 1, none⟩) hb v1).setCell (p := ⟨b, 2, none⟩) hb v2
set_option maxRecDepth 100000 in
set_option maxHeartbeats 4000000 in
theorem action_listen (k : Lk) (g : Nat) (w : World) (hB : Box w g (lkCells k)) (hph : k.ph = 2 ∨ k.ph = 3 ∨ k.ph = 4) :
    Calls Try.prog 43 #[iptr g] w fun e w' => e = .returned (.agg #[.int .i64 2, .int .i64 k.unt, .slice none 0 0]) ∧ Below w.heap.size w w' := by
  have y5 : w.cell? ⟨g, 5, none⟩ = some (.int .i64 k.ph) := hB.1 5
  have y15 : w.cell? ⟨g, 15, none⟩ = some (.int .i64 k.unt) := hB.1 15
  have hgl := hB.2.2
  obtain ⟨ph, hp⟩ : ∃ p, k.ph = p := ⟨_, rfl⟩
  rw [hp] at y5 hph
  have e0 : (ph == 0) = false := by simp; omega
  have e1 : (ph == 1) = false := by simp; omega
  have e5 : (ph == 5) = false := by simp; omega
  have hb := (Below.refl w.heap.size w).alloc (Nat.le_refl _) (.cells #[.int .i64 2, .int .i64 k.unt, .slice none 0 0] 92)
  have HB := Lib.hid hb
  clear hB hph hp hb
  go_enter Try.func43, Try.ntmps43
  go_wp2
  exact bodyPost_ret (v := .agg #[.int .i64 2, .int .i64 k.unt, .slice none 0 0]) (by simp [results, Try.results43, go_sem]) rfl ⟨rfl, HB.out⟩
set_option maxRecDepth 100000 in
set_option maxHeartbeats 4000000 in
theorem action_done (k : Lk) (g : Nat) (w : World) (hB : Box w g (lkCells k)) (hph : k.ph = 5) :
    Calls Try.prog 43 #[iptr g] w fun e w' => e = .returned (.agg #[.int .i64 3, .int .i64 0, .slice none 0 0]) ∧ Below w.heap.size w w' := by
  have y5 : w.cell? ⟨g, 5, none⟩ = some (.int .i64 k.ph) := hB.1 5
  rw [hph] at y5
  have hgl := hB.2.2
  have hb := (Below.refl w.heap.size w).alloc (Nat.le_refl _) (.cells #[.int .i64 3, .int .i64 0, .slice none 0 0] 92)
  have HB := Lib.hid hb
  clear hB hph hb
  go_enter Try.func43, Try.ntmps43
  go_wp2
  exact bodyPost_ret (v := .agg #[.int .i64 3, .int .i64 0, .slice none 0 0]) (by simp [results, Try.results43, go_sem]) rfl ⟨rfl, HB.out⟩
set_option maxRecDepth 100000 in
set_option maxHeartbeats 4000000 in
theorem action_send (k : Lk) (g : Nat) (A : Option Addr) (m c : Nat) (xs : List Int) (w : World) (hB : Box w g (lkCells k)) (hph : k.ph = 1) (hfr : k.fr = .slice A m c) (hr : Rd w w.heap.size 1 A m (by8 xs)) (hm : m ≤ 100000) :
    Calls Try.prog 43 #[iptr g] w fun e w' => ∃ v, e = .returned (.agg #[.int .i64 1, .int .i64 k.now, v]) ∧ w'.ownsRow w.heap.size 5 1 v m (by8 xs) ∧ Below w.heap.size w w' := by
  have HCL := Lib.hid (fun (W : World) (hb : Below w.heap.size w W) => clone_any A m c w.heap.size xs W (hr.below hb (Nat.le_refl _)) hm)
  have hb0 : Below w.heap.size w (w.alloc (.cells #[.int .i64 0, .int .i64 0, .slice none 0 0] 92)) := (Below.refl _ _).alloc (Nat.le_refl _) _
  have HBs := Lib.hid (Box.alloc_ (w := w) (cs := #[.int .i64 0, .int .i64 0, .slice none 0 0]) (e := 92))
  have y5 : (w.alloc (.cells #[.int .i64 0, .int .i64 0, .slice none 0 0] 92)).cell? ⟨g, 5, none⟩ = some (.int .i64 1) := by rw [(hB.alloc' _).1 5]; simp [lkCells, hph]
  have y13 : (w.alloc (.cells #[.int .i64 0, .int .i64 0, .slice none 0 0] 92)).cell? ⟨g, 13, none⟩ = some (.int .i64 k.now) := by rw [(hB.alloc' _).1 13]; simp [lkCells]
  have y12 : (w.alloc (.cells #[.int .i64 0, .int .i64 0, .slice none 0 0] 92)).cell? ⟨g, 12, none⟩ = some (.slice A m c) := by rw [(hB.alloc' _).1 12]; simp [lkCells, hfr]
  have hgl := hB.2.2
  have hgl2 : g < (w.alloc (.cells #[.int .i64 0, .int .i64 0, .slice none 0 0] 92)).heap.size := by simp; omega
  clear hB hph hfr hr
  go_enter Try.func43, Try.ntmps43
  go_upto_region 1 with fail
  have HB0 := Lib.hid hb0
  obtain ⟨w0, hw0⟩ : ∃ W, w.alloc (.cells #[.int .i64 0, .int .i64 0, .slice none 0 0] 92) = W := ⟨_, rfl⟩
  rw [hw0] at y5 y13 y12 HB0 HBs hgl2 ⊢
  obtain ⟨bs, hbs⟩ : ∃ b, w.heap.size = b := ⟨_, rfl⟩
  rw [hbs] at HBs ⊢
  have hne : ¬ (g = bs) := by omega
  have HBL := Lib.hid (show w.heap.size ≤ bs by omega)
  clear hw0 hb0
  go_upto_region 4 with fail
  obtain ⟨x0, hx0⟩ : ∃ x, w0.drew = x := ⟨_, rfl⟩
  have z13 : x0.cell? ⟨g, 13, none⟩ = some (.int .i64 k.now) := by rw [← hx0]; exact y13
  have z12 : x0.cell? ⟨g, 12, none⟩ = some (.slice A m c) := by rw [← hx0]; exact y12
  have hglx : g < x0.heap.size := by rw [← hx0]; exact hgl2
  have HB0 := Lib.hid (show Below w.heap.size w x0 by rw [← hx0]; exact below_drew HB0.out)
  have HBs := Lib.hid (show Box x0 bs #[.int .i64 0, .int .i64 0, .slice none 0 0] by rw [← hx0]; exact HBs.out.drew)
  clear y5 y13 y12 hgl hgl2
  refine rgc_start (X := fun b o => b = bs) (by kernel_rfl) ?_
  rw [hx0]
  refine rgc_t (v := ?_) (some 20) 0 (by kernel_rfl) rfl rfl (.inl ⟨by rfl, fun w' q => ?_⟩) ?_
  rotate_left
  · go_simp <;> with_reducible rfl
  try simp only [Act.put, List.setIfInBounds_toArray, List.set_cons_zero, List.set_cons_succ]
  refine rgc_t (v := ?_) (some 21) 1 (by kernel_rfl) rfl rfl (.inl ⟨by rfl, fun w' q => ?_⟩) ?_
  rotate_left
  · go_simp <;> with_reducible rfl
  try simp only [Act.put, List.setIfInBounds_toArray, List.set_cons_zero, List.set_cons_succ]
  refine rgc_t (v := ?_) (some 22) 2 (by kernel_rfl) rfl rfl (.inl ⟨by rfl, fun w' q => ?_⟩) ?_
  rotate_left
  · go_simp <;> with_reducible rfl
  try simp only [Act.put, List.setIfInBounds_toArray, List.set_cons_zero, List.set_cons_succ]
  refine rgc_t (v := ?_) (some 23) 3 (by kernel_rfl) rfl rfl (.inl ⟨by rfl, fun w' q => ?_⟩) ?_
  rotate_left
  · go_simp <;> with_reducible rfl
  try simp only [Act.put, List.setIfInBounds_toArray, List.set_cons_zero, List.set_cons_succ]
  refine rgc_t (v := ?_) (some 24) 4 (by kernel_rfl) rfl rfl (.inl ⟨by rfl, fun w' q => ?_⟩) ?_
  rotate_left
  · go_simp <;> with_reducible rfl
  try simp only [Act.put, List.setIfInBounds_toArray, List.set_cons_zero, List.set_cons_succ]
  refine rgc_t (v := ?_) (some 25) 5 (by kernel_rfl) rfl rfl (.inl ⟨by rfl, fun w' q => ?_⟩) ?_
  rotate_left
  · go_simp <;> with_reducible rfl
  try simp only [Act.put, List.setIfInBounds_toArray, List.set_cons_zero, List.set_cons_succ]
  refine rgc_t (v := ?_) (some 26) 6 (by kernel_rfl) rfl rfl (.inl ⟨by rfl, fun w' q => ?_⟩) ?_
  rotate_left
  · go_simp <;> with_reducible rfl
  try simp only [Act.put, List.setIfInBounds_toArray, List.set_cons_zero, List.set_cons_succ]
  refine rgc_t (v := ?_) (some 27) 7 (by kernel_rfl) rfl rfl (.inl ⟨by rfl, fun w' q => ?_⟩) ?_
  rotate_left
  · go_simp <;> with_reducible rfl
  try simp only [Act.put, List.setIfInBounds_toArray, List.set_cons_zero, List.set_cons_succ]
  refine rgc_1 8 (by kernel_rfl) ?_
  refine ⟨_, rfl, by rfl, fun K hK => ?_⟩
  go_simp
  refine (HCL.out _ HB0.out).mono ?_
  rintro e x1 ⟨v, rfl, hown, hb⟩
  obtain ⟨A3, c3, rfl, _, _⟩ := own_form hown
  have HOW := Lib.hid (own_mono hown (show bs + 1 ≤ x0.heap.size from HBs.out.2.2))
  have HB0 := Lib.hid (HB0.out.trans (hb.mono HB0.out.size))
  have HBs := Lib.hid (HBs.out.below hb)
  refine hK (fun b o => b = bs) _ _ (fun b o h => .inl h) (MemC.of_below hb) ?_
  clear hown hb
  clear hK K
  try simp only [Act.put, List.setIfInBounds_toArray, List.set_cons_zero, List.set_cons_succ]
  refine rgc_t (v := ?_) (some 29) 9 (by kernel_rfl) rfl rfl (.inl ⟨by rfl, fun w' q => ?_⟩) ?_
  rotate_left
  · go_simp <;> with_reducible rfl
  try simp only [Act.put, List.setIfInBounds_toArray, List.set_cons_zero, List.set_cons_succ]
  refine rgc_1 10 (by kernel_rfl) ?_
  refine ⟨_, rfl, by rfl, fun K hK => ?_⟩
  obtain ⟨q4, z4, l4⟩ := HBs.out
  go_simp
  have hbx := ((HBs.out.set (k := 0) (v := .int .i64 1) (by simp) rfl).set (k := 1) (v := .int .i64 k.now) (by simp) rfl).set (k := 2) (v := .slice A3 m c3) (by simp) rfl
  have hB0 := below_put3 HB0.out HBL.out (.int .i64 1) (.int .i64 k.now) (.slice A3 m c3)
  have hch := ((ChX.of_set (w := x1) (X := fun i => i = bs) (g := bs) (k := 0) (v := .int .i64 1) rfl).set (g := bs) (k := 1) (v := .int .i64 k.now) (fun _ => rfl)).set (g := bs) (k := 2) (v := .slice A3 m c3) (fun _ => rfl)
  have how := own_chx HOW.out hch (fun b hb e => by have h1 := (HOW.out.lt b hb).1; have h2 : b = bs := e; omega)
  have hm := MemC.of_chx (X := fun b o => b = bs) hch (fun b e o => e)
  obtain ⟨x2, hW⟩ : ∃ W, ((x1.setCell ⟨bs, 0, none⟩ (.int .i64 1)).setCell ⟨bs, 1, none⟩ (.int .i64 k.now)).setCell ⟨bs, 2, none⟩ (.slice A3 m c3) = W := ⟨_, rfl⟩
  rw [hW] at hbx hB0 how hm ⊢
  refine hK (fun b o => b = bs) _ _ (fun b o h => .inl h) hm ?_
  have HB0 := Lib.hid hB0
  have HOW := Lib.hid how
  clear q4 z4 l4 hch hm hW hB0 how
  clear hK K
  try simp only [Act.put, List.setIfInBounds_toArray, List.set_cons_zero, List.set_cons_succ]
  refine rgc_d (by kernel_rfl) ?_
  obtain ⟨q4, z4, l4⟩ := hbx
  go_wp2
  exact bodyPost_ret (v := .agg #[.int .i64 1, .int .i64 k.now, .slice A3 m c3]) (by simp [results, Try.results43, go_sem, q4]) rfl ⟨_, rfl, own_mono HOW.out (by have := HBL.out; omega), HB0.out⟩
end Go.Proofs.Ytoliplochipoeaa

/- Layer 19: listens, Sent. -/
set_option linter.unusedVariables false
set_option linter.unusedSimpArgs false
namespace Go.Proofs.Ytoliplochipoeaa
open Go.RowKit

theorem listens_yes (k : Lk) (g : Nat) (w : World) (hB : Box w g (lkCells k)) (hph : k.ph = 2 ∨ k.ph = 3 ∨ k.ph = 4) :
    Calls Try.prog 62 #[iptr g] w fun e w' => e = .returned (.bool true) ∧ w = w' := by
  have y5 : w.cell? ⟨g, 5, none⟩ = some (.int .i64 k.ph) := hB.1 5
  rcases hph with hp | hp | hp <;> rw [hp] at y5 <;> clear hB hp
  · go_enter Try.func62, Try.ntmps62
    go_wp2
    go_ret
    exact ⟨rfl, rfl⟩
  · go_enter Try.func62, Try.ntmps62
    go_wp2
    go_ret
    exact ⟨rfl, rfl⟩
  · go_enter Try.func62, Try.ntmps62
    go_wp2
    go_ret
    exact ⟨rfl, rfl⟩
/-- What Sent leaves: a receiver of its own in block r. -/
def LSent (w : World) (g : Nat) (k : Lk) (E U t15 : Int) (t35 ch : Int) (e : Ending) (w' : World) : Prop :=
  ∃ r, e = .returned (.int .i64 0) ∧ LB (fun i => i = g) w w' g { k with att := k.att + 1, en := E, la := 0, unt := U, rc := iptr r, ph := 2 } ∧ w.heap.size ≤ r ∧ Box w' r (rcvCells ch t15 t35 (.slice none 0 0) 0 0 0 false 0 0)
set_option maxRecDepth 100000 in
set_option maxHeartbeats 8000000 in
theorem lsent_ok (k : Lk) (g : Nat) (E ch t15 t35 U : Int) (w : World) (hB : Box w g (lkCells k)) (hph : k.ph = 1) (hE : k.now ≤ E ∧ E ≤ 1152921504606846976) (hE0 : 0 ≤ E) (hv : validB k.b k.p = true) (h1 : charZ k.b k.p = ch) (h2 : t15Z k.b k.p = t15) (h3 : t35Z k.b k.p = t35)
    (hT : 0 ≤ k.T ∧ k.T ≤ 5000000) (ha : 0 ≤ k.att ∧ k.att ≤ 1000000) (hU : E + t35 + k.T + ch = U) :
    Calls Try.prog 44 #[iptr g, .int .i64 E] w (LSent w g k E U t15 t35 ch) := by
  have HC := Lib.hid (fun W => char_eq k.b k.p ch h1 W)
  have H35 := Lib.hid (fun W => t35_eq k.b k.p t35 h3 W)
  have HN := Lib.hid (fun W => new_ok k.b k.p ch t15 t35 hv h1 h2 h3 W)
  have HW := Lib.hid (fun W => (show decide (k.now ≤ E ∧ E ≤ 1152921504606846976) = true by simp [hE]) ▸ within_any E k.now 1152921504606846976 W)
  have b1 := t35_bd k.b k.p
  have b2 := char_bd k.b k.p
  rw [h3] at b1
  rw [h1] at b2
  obtain ⟨b11, b12⟩ := b1
  obtain ⟨b21, b22⟩ := b2
  obtain ⟨hE1, hE2⟩ := hE
  obtain ⟨hT1, hT2⟩ := hT
  obtain ⟨ha1, ha2⟩ := ha
  have e1 : IntKind.i64.wrap (E + t35) = E + t35 := IntWalk.i64_in _ ⟨by omega, by omega⟩
  have e2 : IntKind.i64.wrap (E + t35 + k.T) = E + t35 + k.T := IntWalk.i64_in _ ⟨by omega, by omega⟩
  have e3 : IntKind.i64.wrap (E + t35 + k.T + ch) = U := by rw [← hU]; exact IntWalk.i64_in _ ⟨by omega, by omega⟩
  have e4 : IntKind.i64.wrap (k.att + 1) = k.att + 1 := IntWalk.i64_in _ ⟨by omega, by omega⟩
  have HL := Lib.hid (show LB (fun i => i = g) w w g k from ⟨hB, ChX.refl _ _⟩)
  obtain ⟨q, z, l⟩ := hB
  have y5 : w.cell? ⟨g, 5, none⟩ = some (.int .i64 1) := by rw [q 5]; simp [lkCells, hph]
  have y13 : w.cell? ⟨g, 13, none⟩ = some (.int .i64 k.now) := q 13
  have y18 : w.cell? ⟨g, 18, none⟩ = some (.int .i64 k.att) := q 18
  have y14 : w.cell? ⟨g, 14, none⟩ = some (.int .i64 k.en) := q 14
  have y16 : w.cell? ⟨g, 16, none⟩ = some (.int .i64 k.la) := q 16
  clear q h1 h2 h3 hv hph hE0 hU
  go_enter Try.func44, Try.ntmps44
  go_wp2_with fail
  refine (HW.out _).mono ?_
  rintro e w' ⟨rfl, rfl⟩
  go_upto_region 9 with fail
  have HL := Lib.hid (show LB (fun i => i = g) w (((w.setCell ⟨g, 18, none⟩ (.int .i64 (k.att + 1))).setCell ⟨g, 14, none⟩ (.int .i64 E)).setCell ⟨g, 16, none⟩ (.int .i64 0)).drew g _ from (((HL.out.sAtt rfl (k.att + 1)).sEn rfl E).sLa rfl 0).drew)
  obtain ⟨x0, hx0⟩ : ∃ x, (((w.setCell ⟨g, 18, none⟩ (.int .i64 (k.att + 1))).setCell ⟨g, 14, none⟩ (.int .i64 E)).setCell ⟨g, 16, none⟩ (.int .i64 0)).drew = x := ⟨_, rfl⟩
  rw [hx0] at HL
  clear y5 y13 y18 y14 y16 z l
  have y0 : x0.cell? ⟨g, 0, none⟩ = some (.int .i64 k.b) := HL.out.cell 0
  have y1 : x0.cell? ⟨g, 1, none⟩ = some (.int .i64 k.p) := HL.out.cell 1
  have y3 : x0.cell? ⟨g, 3, none⟩ = some (.int .i64 k.T) := HL.out.cell 3
  have l0 : g < x0.heap.size := HL.out.1.2.2
  refine rgc_start (X := fun b o => b = g ∧ o = 15) (by kernel_rfl) ?_
  rw [hx0]
  refine rgc_t (v := ?_) (some 36) 0 (by kernel_rfl) rfl rfl (.inl ⟨by rfl, fun w' q => ?_⟩) ?_
  rotate_left
  · go_simp <;> with_reducible rfl
  try simp only [Act.put, List.setIfInBounds_toArray, List.set_cons_zero, List.set_cons_succ]
  refine rgc_t (v := ?_) (some 37) 1 (by kernel_rfl) rfl rfl (.inl ⟨by rfl, fun w' q => ?_⟩) ?_
  rotate_left
  · go_simp <;> with_reducible rfl
  try simp only [Act.put, List.setIfInBounds_toArray, List.set_cons_zero, List.set_cons_succ]
  refine rgc_t (v := ?_) (some 38) 2 (by kernel_rfl) rfl rfl (.inl ⟨by rfl, fun w' q => ?_⟩) ?_
  rotate_left
  · go_simp <;> with_reducible rfl
  try simp only [Act.put, List.setIfInBounds_toArray, List.set_cons_zero, List.set_cons_succ]
  refine rgc_t (v := ?_) (some 39) 3 (by kernel_rfl) rfl rfl (.inl ⟨by rfl, fun w' q => ?_⟩) ?_
  rotate_left
  · go_simp <;> with_reducible rfl
  try simp only [Act.put, List.setIfInBounds_toArray, List.set_cons_zero, List.set_cons_succ]
  refine rgc_t (v := ?_) (some 40) 4 (by kernel_rfl) rfl rfl (.inl ⟨by rfl, fun w' q => ?_⟩) ?_
  rotate_left
  · go_simp <;> with_reducible rfl
  try simp only [Act.put, List.setIfInBounds_toArray, List.set_cons_zero, List.set_cons_succ]
  refine rgc_t (v := ?_) (some 41) 5 (by kernel_rfl) rfl rfl (.inl ⟨by rfl, fun w' q => ?_⟩) ?_
  rotate_left
  · go_simp <;> with_reducible rfl
  try simp only [Act.put, List.setIfInBounds_toArray, List.set_cons_zero, List.set_cons_succ]
  refine rgc_t (v := ?_) (some 44) 8 (by kernel_rfl) rfl rfl (.inl ⟨by rfl, fun w' q => ?_⟩) ?_
  rotate_left
  · go_simp <;> with_reducible rfl
  try simp only [Act.put, List.setIfInBounds_toArray, List.set_cons_zero, List.set_cons_succ]
  refine rgc_t (v := ?_) (some 45) 9 (by kernel_rfl) rfl rfl (.inl ⟨by rfl, fun w' q => ?_⟩) ?_
  rotate_left
  · go_simp <;> with_reducible rfl
  try simp only [Act.put, List.setIfInBounds_toArray, List.set_cons_zero, List.set_cons_succ]
  refine rgc_t (v := ?_) (some 46) 10 (by kernel_rfl) rfl rfl (.inl ⟨by rfl, fun w' q => ?_⟩) ?_
  rotate_left
  · go_simp <;> with_reducible rfl
  try simp only [Act.put, List.setIfInBounds_toArray, List.set_cons_zero, List.set_cons_succ]
  refine rgc_t (v := ?_) (some 47) 11 (by kernel_rfl) rfl rfl (.inl ⟨by rfl, fun w' q => ?_⟩) ?_
  rotate_left
  · go_simp <;> with_reducible rfl
  try simp only [Act.put, List.setIfInBounds_toArray, List.set_cons_zero, List.set_cons_succ]
  refine rgc_t (v := ?_) (some 49) 13 (by kernel_rfl) rfl rfl (.inl ⟨by rfl, fun w' q => ?_⟩) ?_
  rotate_left
  · go_simp <;> with_reducible rfl
  try simp only [Act.put, List.setIfInBounds_toArray, List.set_cons_zero, List.set_cons_succ]
  refine rgc_t (v := ?_) (some 50) 14 (by kernel_rfl) rfl rfl (.inl ⟨by rfl, fun w' q => ?_⟩) ?_
  rotate_left
  · go_simp <;> with_reducible rfl
  try simp only [Act.put, List.setIfInBounds_toArray, List.set_cons_zero, List.set_cons_succ]
  refine rgc_t (v := ?_) (some 51) 15 (by kernel_rfl) rfl rfl (.inl ⟨by rfl, fun w' q => ?_⟩) ?_
  rotate_left
  · go_simp <;> with_reducible rfl
  try simp only [Act.put, List.setIfInBounds_toArray, List.set_cons_zero, List.set_cons_succ]
  refine rgc_t (v := ?_) (some 52) 16 (by kernel_rfl) rfl rfl (.inl ⟨by rfl, fun w' q => ?_⟩) ?_
  rotate_left
  · go_simp <;> with_reducible rfl
  try simp only [Act.put, List.setIfInBounds_toArray, List.set_cons_zero, List.set_cons_succ]
  refine rgc_1 6 (by kernel_rfl) ?_
  refine ⟨_, rfl, by rfl, fun K hK => ?_⟩
  go_simp
  refine (H35.out _).mono ?_
  rintro e x1 ⟨rfl, hb⟩
  have HL := Lib.hid (HL.out.below hb)
  refine hK (fun b o => b = g ∧ o = 15) _ _ (fun b o h => .inl h) (MemC.of_below hb) ?_
  clear hb
  clear hK K
  try simp only [Act.put, List.setIfInBounds_toArray, List.set_cons_zero, List.set_cons_succ]
  refine rgc_t (v := ?_) (some 43) 7 (by kernel_rfl) rfl rfl (.inl ⟨by rfl, fun w' q => ?_⟩) ?_
  rotate_left
  · go_simp <;> with_reducible rfl
  try simp only [Act.put, List.setIfInBounds_toArray, List.set_cons_zero, List.set_cons_succ]
  refine rgc_t (v := ?_) (some 48) 12 (by kernel_rfl) rfl rfl (.inl ⟨by rfl, fun w' q => ?_⟩) ?_
  rotate_left
  · go_simp <;> with_reducible rfl
  try simp only [Act.put, List.setIfInBounds_toArray, List.set_cons_zero, List.set_cons_succ]
  refine rgc_1 17 (by kernel_rfl) ?_
  refine ⟨_, rfl, by rfl, fun K hK => ?_⟩
  go_simp
  refine (HC.out _).mono ?_
  rintro e x2 ⟨rfl, hb⟩
  have HL := Lib.hid (HL.out.below hb)
  refine hK (fun b o => b = g ∧ o = 15) _ _ (fun b o h => .inl h) (MemC.of_below hb) ?_
  clear hb
  clear hK K
  try simp only [Act.put, List.setIfInBounds_toArray, List.set_cons_zero, List.set_cons_succ]
  refine rgc_t (v := ?_) (some 54) 18 (by kernel_rfl) rfl rfl (.inl ⟨by rfl, fun w' q => ?_⟩) ?_
  rotate_left
  · go_simp <;> with_reducible rfl
  try simp only [Act.put, List.setIfInBounds_toArray, List.set_cons_zero, List.set_cons_succ]
  refine rgc_t (v := ?_) (some 55) 19 (by kernel_rfl) rfl rfl (.inl ⟨by rfl, fun w' q => ?_⟩) ?_
  rotate_left
  · go_simp <;> with_reducible rfl
  try simp only [Act.put, List.setIfInBounds_toArray, List.set_cons_zero, List.set_cons_succ]
  refine rgc_t (v := ?_) (some 56) 20 (by kernel_rfl) rfl rfl (.inl ⟨by rfl, fun w' q => ?_⟩) ?_
  rotate_left
  · go_simp <;> with_reducible rfl
  try simp only [Act.put, List.setIfInBounds_toArray, List.set_cons_zero, List.set_cons_succ]
  refine rgc_1 21 (by kernel_rfl) ?_
  refine ⟨_, rfl, by rfl, fun K hK => ?_⟩
  obtain ⟨q4, z4, l4⟩ := HL.out.1
  unfold lkCells at q4
  go_simp
  try rw [e1, e2, e3]
  have hLs := HL.out.sUnt rfl U
  have hm : MemC (fun b o => b = g ∧ o = 15) x2 (x2.setCell ⟨g, 15, none⟩ (.int .i64 U)) := (MemC.refl (fun b o => b = g ∧ o = 15) x2).of_set ⟨rfl, rfl⟩
  obtain ⟨x3, hW⟩ : ∃ W, (x2.setCell ⟨g, 15, none⟩ (.int .i64 U)) = W := ⟨_, rfl⟩
  rw [hW] at hLs hm ⊢
  refine hK (fun b o => b = g ∧ o = 15) _ _ (fun b o h => .inl h) hm ?_
  have HL := Lib.hid hLs
  clear q4 z4 l4 hm hLs hW
  clear hK K
  try simp only [Act.put, List.setIfInBounds_toArray, List.set_cons_zero, List.set_cons_succ]
  refine rgc_d (by kernel_rfl) ?_
  obtain ⟨q4, z4, l4⟩ := HL.out.1
  unfold lkCells at q4
  go_wp2_with fail
  refine (HN.out _).mono ?_
  rintro e wn ⟨r, rfl, hbx, hrs, hb⟩
  have HRS := Lib.hid (Nat.le_trans HL.out.2.size hrs)
  have HRG := Lib.hid (show ¬ r = g by have := HL.out.1.2.2; omega)
  have HL := Lib.hid (HL.out.below hb)
  clear q4 z4 l4
  obtain ⟨q4, z4, l4⟩ := HL.out.1
  unfold lkCells at q4
  go_wp2
  go_ret
  have HF := (HL.out.sRc rfl (iptr r)).sPh rfl 2
  exact ⟨r, rfl, HF, HRS.out, (hbx.chx (ChX.of_set (X := fun i => i = g) rfl) HRG.out).chx (ChX.of_set (X := fun i => i = g) rfl) HRG.out⟩
end Go.Proofs.Ytoliplochipoeaa


/- The reference of the receiver: frame. -/
import Derived.Test.YthgapllfjllnfaaRcvZ
import Derived.Test.YthgapllfjllnfaaRegG
import Derived.Deep.DeepCutAuto
set_option linter.unusedVariables false
set_option linter.unusedSimpArgs false
namespace Go.Proofs.Ythgapllfjllnfaa
open Go.RowKit

/-- Within frame: the setting's cells, the result's, the frame's, its row. -/
def FrS (w0 x : World) (b p : Int) (cs : Array Value) (v : Value) (xs : List Int) : Prop :=
  Box x w0.heap.size #[.int .i64 b, .int .i64 p] ∧ Box x (w0.heap.size + 1) #[.slice none 0 0, .int .i64 0, .int .i64 0, .int .i64 0] ∧ Box x (w0.heap.size + 2) cs ∧ x.ownsRow (w0.heap.size + 3) 5 1 v xs.length (by8 xs) ∧ Below w0.heap.size w0 x
theorem FrS.below {w0 x x' : World} {b p : Int} {cs : Array Value} {v : Value} {xs : List Int} (h : FrS w0 x b p cs v xs) (hb : Below x.heap.size x x') : FrS w0 x' b p cs v xs := by
  obtain ⟨h1, h2, h3, h4, h5⟩ := h
  exact ⟨h1.below hb, h2.below hb, h3.below hb, own_below h4 hb (Nat.le_refl _), ext_trans h5 hb⟩
theorem FrS.set {w0 x : World} {b p : Int} {cs cs' : Array Value} {v u : Value} {xs : List Int} (h : FrS w0 x b p cs v xs) {k : Nat} (hk : k < cs.size) (e : cs.setIfInBounds k u = cs') : FrS w0 (x.setCell ⟨w0.heap.size + 2, k, none⟩ u) b p cs' v xs := by
  obtain ⟨h1, h2, h3, h4, h5⟩ := h
  have hg := one_set (one_refl x (w0.heap.size + 2)) k u
  exact ⟨h1.grown hg (by omega), h2.grown hg (by omega), h3.set hk e, ownsRow_setCell_below h4 (show w0.heap.size + 2 < w0.heap.size + 3 by omega) _, below_one h5 hg (by omega) h5.size⟩
theorem FrS.app {w0 x x' : World} {b p : Int} {cs : Array Value} {v v' : Value} {xs : List Int} {z : Int} (h : FrS w0 x b p cs v xs) (hown : x'.ownsRow (w0.heap.size + 3) 5 1 v' (xs.length + 1) (by8 xs ++ [.int .u8 z])) (hg : x.grownBy x' v.ownBlock) : FrS w0 x' b p cs v' (xs ++ [z]) := by
  obtain ⟨h1, h2, h3, h4, h5⟩ := h
  refine ⟨h1.row hg (ne_row h4 (by omega)), h2.row hg (ne_row h4 (by omega)), h3.row hg (ne_row h4 (by omega)), ?_, below_row h5 h4 hg (by omega) h5.size⟩
  rw [List.length_append, show by8 (xs ++ [z]) = by8 xs ++ [.int .u8 z] by simp]; exact hown
theorem flg_le (p f g l : Bool) : 0 ≤ flg p f g l ∧ flg p f g l ≤ 15 := by cases p <;> cases f <;> cases g <;> cases l <;> decide
theorem flg_s2 (p f : Bool) : flg p f false false = if f then flg p false false false + 2 else flg p false false false := by cases p <;> cases f <;> decide
theorem flg_s3 (p f g : Bool) : flg p f g false = if g then flg p f false false + 4 else flg p f false false := by cases p <;> cases f <;> cases g <;> decide
theorem flg_s4 (p f g l : Bool) : flg p f g l = if l then flg p f g false + 8 else flg p f g false := by cases p <;> cases f <;> cases g <;> cases l <;> decide
theorem takev_snoc (evs : List Ev) (k : Nat) (hk : k < evs.length) (h : k < 256) : ((evs.take (k + 1)).take 256).map Ev.val = ((evs.take k).take 256).map Ev.val ++ [evs[k].val] := by
  rw [List.take_take, List.take_take, show min 256 (k + 1) = k + 1 by omega, show min 256 k = k by omega, List.take_succ_eq_append_getElem hk, List.map_append]; rfl
theorem takev_same (evs : List Ev) (k : Nat) (h : 256 ≤ k) : ((evs.take (k + 1)).take 256).map Ev.val = ((evs.take k).take 256).map Ev.val := by
  rw [List.take_take, List.take_take, show min 256 (k + 1) = 256 by omega, show min 256 k = 256 by omega]
theorem gap_snoc (ch t15 : Int) (evs : List Ev) (k : Nat) (hk : k < evs.length) : gapL ch t15 (evs.take (k + 1)) = (gapL ch t15 (evs.take k) || (decide (0 < k) && decide (t15 < silR ch (lastD (evs.take k)) evs[k]))) := by
  rw [List.take_succ_eq_append_getElem hk]
  rcases k with _ | k
  · simp [gapL, gapG]
  · rw [gapL_snoc ch t15 _ _ (by intro h; rw [List.take_eq_nil_iff] at h; rcases h with h | h <;> first | omega | (subst h; simp at hk))]; simp only [Nat.zero_lt_succ, decide_true, Bool.true_and]
set_option maxRecDepth 100000 in
set_option maxHeartbeats 16000000 in
theorem rframe_eq (b p ch t15 : Int) (hc : charZ b p = ch) (h15 : t15Z b p = t15) (evs : List Ev) (F : Fz) (hF : frameR ch t15 evs = F) (A : Option Addr) (n c B : Nat) (w : World) (hr : Rd w B 3 A n (evCells evs)) (hB : B ≤ w.heap.size) (hn1 : 0 < n) (hn : n ≤ 1000) (hin : evs.all inR = true) :
    Calls Try.prog 28 #[.agg #[.int .i64 b, .int .i64 p], .slice A n c] w fun e w' => ∃ A2 c2, e = .returned (.agg #[.slice A2 F.xs.length c2, .int .i64 F.fi, .int .i64 F.la, .int .i64 F.fl]) ∧ w'.ownsRow w.heap.size 5 1 (.slice A2 F.xs.length c2) F.xs.length (by8 F.xs) ∧ Below w.heap.size w w' := by
  have hel := hr.elen
  obtain ⟨j, hj⟩ : ∃ j, n = j + 1 := ⟨n - 1, by omega⟩
  obtain ⟨b0, off, hA, hb0, c0'⟩ := hr.2 (by omega)
  subst hA
  obtain ⟨e0, he0⟩ : ∃ e, headD evs = e := ⟨_, rfl⟩
  obtain ⟨el, hel2⟩ : ∃ e, lastD evs = e := ⟨_, rfl⟩
  have g0 : (evCells evs)[0]? = some (.int .i64 e0.at_) := by
    rcases evs with _ | ⟨y, t⟩
    · simp at hel; omega
    · simp only [headD, List.headD_cons] at he0; subst he0; rfl
  have gl : (evCells evs)[j * 3]? = some (.int .i64 el.at_) := by
    have := (evCells_get evs j (by omega)).1
    rw [this, ← hel2]
    congr 3
    rw [lastD, List.getLastD_eq_getLast?, List.getLast?_eq_getElem?, show evs.length - 1 = j by omega, List.getElem?_eq_getElem (by omega)]
    rfl
  have c0 : w.cell? ⟨b0, off, none⟩ = some (.int .i64 e0.at_) := c0' 0 _ g0
  have cl : w.cell? ⟨b0, off + j * 3, none⟩ = some (.int .i64 el.at_) := c0' _ _ gl
  have kl : IntKind.i64.wrap ((n : Int) - 1) = (j : Int) := by rw [hj, show ((j + 1 : Nat) : Int) - 1 = (j : Int) by omega]; exact IntWalk.i64_in _ ⟨by omega, by omega⟩
  have hjn : j < n := by omega
  have hb0' : b0 < w.heap.size := by omega
  have hFx : F = ⟨(evs.take 256).map Ev.val, e0.at_, el.at_, flg (evs.any parB) (evs.any frmB) (gapL ch t15 evs) (decide (256 < n))⟩ := by rw [← hF, frameR, he0, hel2, hel]
  have HFX := Lib.hid hFx
  have HEL := Lib.hid hel
  have HIN := Lib.hid hin
  have HC := Lib.hid hc
  have HT := Lib.hid (fun W => show Calls Try.prog 35 #[.agg #[.int .i64 b, .int .i64 p]] W (fun e w' => e = .returned (.int .i64 t15) ∧ Below W.heap.size W w') from h15 ▸ rt15_any b p W)
  have hbz : Below w.heap.size w ((w.alloc (.cells #[.int .i64 b, .int .i64 p] 23)).alloc (.cells #[.slice none 0 0, .int .i64 0, .int .i64 0, .int .i64 0] 44)) := by
    have hb1 : Below w.heap.size w (w.alloc (.cells #[.int .i64 b, .int .i64 p] 23)) := (Below.refl _ _).alloc (Nat.le_refl _) _
    exact hb1.alloc hb1.size (.cells #[.slice none 0 0, .int .i64 0, .int .i64 0, .int .i64 0] 44)
  have hbx1 := (Box.alloc_ (w := w) (cs := #[.int .i64 b, .int .i64 p]) (e := 23)).alloc' (.cells #[.slice none 0 0, .int .i64 0, .int .i64 0, .int .i64 0] 44)
  have hbx2 := Box.alloc_ (w := w.alloc (.cells #[.int .i64 b, .int .i64 p] 23)) (cs := #[.slice none 0 0, .int .i64 0, .int .i64 0, .int .i64 0]) (e := 44)
  have hsz0 : ((w.alloc (.cells #[.int .i64 b, .int .i64 p] 23)).alloc (.cells #[.slice none 0 0, .int .i64 0, .int .i64 0, .int .i64 0] 44)).drew.heap.size = w.heap.size + 2 := by simp
  simp only [World.size_alloc] at hbx2
  have HBX1 := Lib.hid hbx1.drew
  have HBX2 := Lib.hid hbx2.drew
  have HBZ := Lib.hid (below_drew hbz)
  clear hbz hbx1 hbx2
  have HR := Lib.hid hr
  have HBB := Lib.hid hB
  clear hr hB hin hc h15 hF hFx hel c0' he0 hel2 g0 gl hj
  go_enter Try.func28, Try.ntmps28
  go_upto_region 1 with fail
  obtain ⟨x0, hx0⟩ : ∃ x, ((w.alloc (.cells #[.int .i64 b, .int .i64 p] 23)).alloc (.cells #[.slice none 0 0, .int .i64 0, .int .i64 0, .int .i64 0] 44)).drew = x := ⟨_, rfl⟩
  rw [hx0] at HBX1 HBX2 HBZ hsz0
  have y0 : x0.cell? ⟨b0, off, none⟩ = some (.int .i64 e0.at_) := (HBZ.out.cell (p := ⟨b0, off, none⟩) hb0').trans c0
  have yl : x0.cell? ⟨b0, off + j * 3, none⟩ = some (.int .i64 el.at_) := (HBZ.out.cell (p := ⟨b0, off + j * 3, none⟩) hb0').trans cl
  have hb0x : b0 < x0.heap.size := Nat.lt_of_lt_of_le hb0' HBZ.out.size
  have HSZ := Lib.hid hsz0
  clear hsz0
  refine rgx_start (by kernel_rfl) ?_
  rw [hx0]
  refine rgx_t (v := ?_) (some 10) 0 (by kernel_rfl) rfl rfl (.inl ⟨by rfl, fun w' q => ?_⟩) ?_
  rotate_left
  · go_simp <;> with_reducible rfl
  try simp only [Act.put, List.setIfInBounds_toArray, List.set_cons_zero, List.set_cons_succ]
  refine rgx_t (v := ?_) (some 11) 1 (by kernel_rfl) rfl rfl (.inl ⟨by rfl, fun w' q => ?_⟩) ?_
  rotate_left
  · go_simp <;> with_reducible rfl
  try simp only [Act.put, List.setIfInBounds_toArray, List.set_cons_zero, List.set_cons_succ]
  refine rgx_t (v := ?_) (some 12) 2 (by kernel_rfl) rfl rfl (.inl ⟨by rfl, fun w' q => ?_⟩) ?_
  rotate_left
  · go_simp <;> with_reducible rfl
  try simp only [Act.put, List.setIfInBounds_toArray, List.set_cons_zero, List.set_cons_succ]
  refine rgx_t (v := ?_) (some 13) 3 (by kernel_rfl) rfl rfl (.inl ⟨by rfl, fun w' q => ?_⟩) ?_
  rotate_left
  · go_simp <;> with_reducible rfl
  try simp only [Act.put, List.setIfInBounds_toArray, List.set_cons_zero, List.set_cons_succ]
  refine rgx_t (v := ?_) (some 14) 4 (by kernel_rfl) rfl rfl (.inl ⟨by rfl, fun w' q => ?_⟩) ?_
  rotate_left
  · go_simp <;> with_reducible rfl
  try simp only [Act.put, List.setIfInBounds_toArray, List.set_cons_zero, List.set_cons_succ]
  refine rgx_t (v := ?_) (some 15) 5 (by kernel_rfl) rfl rfl (.inl ⟨by rfl, fun w' q => ?_⟩) ?_
  rotate_left
  · go_simp <;> with_reducible rfl
  try simp only [Act.put, List.setIfInBounds_toArray, List.set_cons_zero, List.set_cons_succ]
  refine rgx_t (v := ?_) (some 16) 6 (by kernel_rfl) rfl rfl (.inl ⟨by rfl, fun w' q => ?_⟩) ?_
  rotate_left
  · go_simp <;> with_reducible rfl
  try simp only [Act.put, List.setIfInBounds_toArray, List.set_cons_zero, List.set_cons_succ]
  refine rgx_t (v := ?_) (some 17) 7 (by kernel_rfl) rfl rfl (.inl ⟨by rfl, fun w' q => ?_⟩) ?_
  rotate_left
  · go_simp <;> with_reducible rfl
  try simp only [Act.put, List.setIfInBounds_toArray, List.set_cons_zero, List.set_cons_succ]
  refine rgx_t (v := ?_) (some 18) 8 (by kernel_rfl) rfl rfl (.inl ⟨by rfl, fun w' q => ?_⟩) ?_
  rotate_left
  · go_simp <;> with_reducible rfl
  try simp only [Act.put, List.setIfInBounds_toArray, List.set_cons_zero, List.set_cons_succ]
  refine rgx_t (v := ?_) (some 19) 9 (by kernel_rfl) rfl rfl (.inl ⟨by rfl, fun w' q => ?_⟩) ?_
  rotate_left
  · go_simp <;> with_reducible rfl
  try simp only [Act.put, List.setIfInBounds_toArray, List.set_cons_zero, List.set_cons_succ]
  refine rgx_t (v := ?_) (some 20) 10 (by kernel_rfl) rfl rfl (.inl ⟨by rfl, fun w' q => ?_⟩) ?_
  rotate_left
  · go_simp <;> with_reducible rfl
  try simp only [Act.put, List.setIfInBounds_toArray, List.set_cons_zero, List.set_cons_succ]
  refine rgx_t (v := ?_) (some 21) 11 (by kernel_rfl) rfl rfl (.inl ⟨by rfl, fun w' q => ?_⟩) ?_
  rotate_left
  · go_simp <;> with_reducible rfl
  try simp only [Act.put, List.setIfInBounds_toArray, List.set_cons_zero, List.set_cons_succ]
  refine rgx_1 12 (by kernel_rfl) ?_
  refine ⟨_, rfl, by rfl, fun K hK => ?_⟩
  go_simp
  have hb := (Below.refl x0.heap.size x0).alloc (Nat.le_refl _) (.cells #[.slice none 0 0, .int .i64 0, .int .i64 0, .int .i64 0] 44)
  have hfs : FrS w (x0.alloc (.cells #[.slice none 0 0, .int .i64 0, .int .i64 0, .int .i64 0] 44)) b p #[.slice none 0 0, .int .i64 0, .int .i64 0, .int .i64 0] (.slice none 0 0) [] := ⟨HBX1.out.below hb, HBX2.out.below hb, HSZ.out ▸ Box.alloc_, ⟨rfl, .inl ⟨rfl, rfl⟩⟩, ext_trans HBZ.out hb⟩
  obtain ⟨x1, hW⟩ : ∃ W, x0.alloc (.cells #[.slice none 0 0, .int .i64 0, .int .i64 0, .int .i64 0] 44) = W := ⟨_, rfl⟩
  rw [hW] at hb hfs ⊢
  try rw [HSZ.out]
  have HFS := Lib.hid hfs
  refine hK (fun b => False ∨ b = w.heap.size + 2) _ _ (fun b h => by first | exact .inl h | (simp only [false_or] at h ⊢; have := HSZ.out; omega)) (Mem.of_below hb) ?_
  clear hb hfs hW
  clear hK K
  try simp only [Act.put, List.setIfInBounds_toArray, List.set_cons_zero, List.set_cons_succ]
  refine rgx_1 13 (by kernel_rfl) ?_
  refine ⟨_, rfl, by rfl, fun K hK => ?_⟩
  obtain ⟨q5, z5, l5⟩ := HFS.out.2.2.1
  go_simp
  have hfs := (((HFS.out.set (k := 0) (u := .slice none 0 0) (cs' := #[.slice none 0 0, .int .i64 0, .int .i64 0, .int .i64 0]) (by simp) rfl).set (k := 1) (u := .int .i64 e0.at_) (cs' := #[.slice none 0 0, .int .i64 e0.at_, .int .i64 0, .int .i64 0]) (by simp) rfl).set (k := 2) (u := .int .i64 el.at_) (cs' := #[.slice none 0 0, .int .i64 e0.at_, .int .i64 el.at_, .int .i64 0]) (by simp) rfl).set (k := 3) (u := .int .i64 0) (cs' := #[.slice none 0 0, .int .i64 e0.at_, .int .i64 el.at_, .int .i64 0]) (by simp) rfl
  have hm := (((((Mem.refl (fun b => False ∨ b = w.heap.size + 2) x1).of_set (g := w.heap.size + 2) (k := 0) (v := .slice none 0 0) (.inr rfl)).of_set (g := w.heap.size + 2) (k := 1) (v := .int .i64 e0.at_) (.inr rfl)).of_set (g := w.heap.size + 2) (k := 2) (v := .int .i64 el.at_) (.inr rfl)).of_set (g := w.heap.size + 2) (k := 3) (v := .int .i64 0) (.inr rfl))
  obtain ⟨x2, hW⟩ : ∃ W, ((((x1.setCell ⟨w.heap.size + 2, 0, none⟩ (.slice none 0 0)).setCell ⟨w.heap.size + 2, 1, none⟩ (.int .i64 e0.at_)).setCell ⟨w.heap.size + 2, 2, none⟩ (.int .i64 el.at_)).setCell ⟨w.heap.size + 2, 3, none⟩ (.int .i64 0)) = W := ⟨_, rfl⟩
  rw [hW] at hfs hm ⊢
  have HFS := Lib.hid hfs
  refine hK (fun b => False ∨ b = w.heap.size + 2) _ _ (fun b h => .inl h) hm ?_
  clear hm hfs hW q5 z5 l5
  clear hK K
  try simp only [Act.put, List.setIfInBounds_toArray, List.set_cons_zero, List.set_cons_succ]
  refine rgx_d (by kernel_rfl) ?_
  have HCB := Lib.hid (show ∀ x, FrS w x b p #[.slice none 0 0, .int .i64 e0.at_, .int .i64 el.at_, .int .i64 0] (.slice none 0 0) [] → True from fun _ _ => trivial)
  clear hx0 y0 yl hb0x HSZ HBX1 HBX2 HBZ c0 cl kl
  go_wp2_with fail
  go_loopw [6, 7, 8, 9] (fun p6 f7 g8 i x => ∃ (k : Nat) (v : Value), p6 = .bool ((evs.take k).any parB) ∧ f7 = .bool ((evs.take k).any frmB) ∧ g8 = .bool (gapL ch t15 (evs.take k)) ∧ i = .int .i64 k ∧ k ≤ n ∧ FrS w x b p #[v, .int .i64 e0.at_, .int .i64 el.at_, .int .i64 0] v (((evs.take k).take 256).map Ev.val)) (fun _ _ _ i _ => n - (intOf i).toNat)
  case atStart => exact ⟨0, .slice none 0 0, rfl, rfl, rfl, rfl, by omega, HFS.out⟩
  case round =>
    obtain ⟨k, v, rfl, rfl, rfl, rfl, hk, hfs⟩ := hrel
    have HF1 := Lib.hid hfs
    clear hfs
    by_cases hlt : k < n
    · have hrk := HR.out.below HF1.out.2.2.2.2 HBB.out
      obtain ⟨b2, off2, hA2, hb2, hk', c0, c1, c2⟩ := ev_at hrk k hlt
      injection hA2 with hA2
      injection hA2 with e1 e2
      subst e1 e2
      have hrkB := hrk
      have HIE := Lib.hid (List.all_eq_true.1 HIN.out _ (List.getElem_mem hk'))
      obtain ⟨ev, hev⟩ : ∃ ev, evs[k] = ev := ⟨_, rfl⟩
      have hp1 : (evs.take (k + 1)).any parB = ((evs.take k).any parB || parB ev) := by rw [List.take_succ_eq_append_getElem hk', List.any_append, hev]; simp
      have hf1 : (evs.take (k + 1)).any frmB = ((evs.take k).any frmB || frmB ev) := by rw [List.take_succ_eq_append_getElem hk', List.any_append, hev]; simp
      have hg1 := gap_snoc ch t15 evs k hk'
      rw [hev] at hg1
      have hxs : (if k < 256 then ((evs.take k).take 256).map Ev.val ++ [ev.val] else ((evs.take k).take 256).map Ev.val) = ((evs.take (k + 1)).take 256).map Ev.val := by
        split
        · rw [takev_snoc evs k hk' (by omega), hev]
        · rw [takev_same evs k (by omega)]
      obtain ⟨xs, hxs0⟩ : ∃ xs, ((evs.take k).take 256).map Ev.val = xs := ⟨_, rfl⟩
      obtain ⟨xs2, hxs2⟩ : ∃ xs, ((evs.take (k + 1)).take 256).map Ev.val = xs := ⟨_, rfl⟩
      rw [hxs0, hxs2] at hxs
      rw [hxs0] at HF1
      have hxl : xs.length ≤ 256 := by rw [← hxs0]; simp; omega
      obtain ⟨pb, hpb⟩ : ∃ z, (evs.take k).any parB = z := ⟨_, rfl⟩
      obtain ⟨fb, hfb⟩ : ∃ z, (evs.take k).any frmB = z := ⟨_, rfl⟩
      obtain ⟨gb, hgb⟩ : ∃ z, gapL ch t15 (evs.take k) = z := ⟨_, rfl⟩
      rw [hpb] at hp1
      rw [hfb] at hf1
      rw [hgb] at hg1
      rw [hpb, hfb, hgb]
      have HXS := Lib.hid hxs
      have HX2 := Lib.hid hxs2
      have HXL := Lib.hid hxl
      have HP1 := Lib.hid hp1
      have HF2 := Lib.hid hf1
      have HG1 := Lib.hid hg1
      have HEV := Lib.hid (show evs[k]? = some ev by rw [List.getElem?_eq_getElem hk', hev])
      rw [hev] at c0 c1 c2 HIE
      obtain ⟨m, hm⟩ : ∃ m, xs.length = m := ⟨_, rfl⟩
      obtain ⟨A2, cc, hv, _, _⟩ := own_form HF1.out.2.2.2.1
      rw [hm] at hv HXL
      subst hv
      have HM := Lib.hid hm
      clear hrk hrkB hk' hp1 hf1 hg1 hxs hxs0 hxs2 hxl hpb hfb hgb hev hm
      have hb2w : b0 < wr.heap.size := Nat.lt_of_lt_of_le hb0' HF1.out.2.2.2.2.size
      obtain ⟨tb, d1⟩ : ∃ tb, decide ((k : Int) < 256) = tb := ⟨_, rfl⟩
      have D1 := Lib.hid d1
      go_upto_if 29 with fail
      clear d1
      go_cut [] (fun x => ∃ v2, FrS w x b p #[v2, .int .i64 e0.at_, .int .i64 el.at_, .int .i64 0] v2 xs2)
      case first =>
        have hxs := HXS.out
        cases tb
        rotate_left
        · have hs : k < 256 := by have := D1.out; simp at this; omega
          rw [if_pos hs] at hxs
          subst hxs
          clear hs
          go_upto_region 7 with fail
          have HLS := Lib.hid (HF1.out.below (below_drew (Below.refl _ _)))
          obtain ⟨rw1, hrw⟩ : ∃ r, (Value.slice A2 m cc).ownBlock = r := ⟨_, rfl⟩
          have HRW := Lib.hid hrw
          have hbxn : ¬ (b0 = w.heap.size + 2 ∨ some b0 = rw1) := by
            rintro (h | h)
            · omega
            · exact ne_row HF1.out.2.2.2.1 (show b0 < w.heap.size + 3 by omega) (by rw [hrw]; exact h)
          obtain ⟨x0, hx0⟩ : ∃ x, wr.drew = x := ⟨_, rfl⟩
          rw [hx0] at HLS
          have hb2x : b0 < x0.heap.size := by rw [← hx0]; exact hb2w
          have y1 : x0.cell? ⟨b0, off + k * 3 + 1, none⟩ = some (.int .u8 ev.val) := by rw [← hx0]; exact c1
          have HW3 := Lib.hid (show w.heap.size + 2 < x0.heap.size from HLS.out.2.2.1.2.2)
          clear hrw c0 c1 c2 hb2w
          refine rgx_start_x (X := fun b => b = w.heap.size + 2 ∨ some b = rw1) (by kernel_rfl) ?_
          rw [hx0]
          refine rgx_t (v := ?_) (some 30) 0 (by kernel_rfl) rfl rfl (.inl ⟨by rfl, fun w' q => ?_⟩) ?_
          rotate_left
          · go_simp <;> with_reducible rfl
          try simp only [Act.put, List.setIfInBounds_toArray, List.set_cons_zero, List.set_cons_succ]
          refine rgx_t (v := ?_) (some 32) 2 (by kernel_rfl) rfl rfl (.inl ⟨by rfl, fun w' q => ?_⟩) ?_
          rotate_left
          · go_simp <;> with_reducible rfl
          try simp only [Act.put, List.setIfInBounds_toArray, List.set_cons_zero, List.set_cons_succ]
          refine rgx_t (v := ?_) (some 33) 3 (by kernel_rfl) rfl rfl (.inl ⟨by rfl, fun w' q => ?_⟩) ?_
          rotate_left
          · go_simp <;> with_reducible rfl
          try simp only [Act.put, List.setIfInBounds_toArray, List.set_cons_zero, List.set_cons_succ]
          refine rgx_t (v := ?_) (some 34) 4 (by kernel_rfl) rfl rfl (.inl ⟨by rfl, fun w' q => ?_⟩) ?_
          rotate_left
          · go_simp <;> with_reducible rfl
          try simp only [Act.put, List.setIfInBounds_toArray, List.set_cons_zero, List.set_cons_succ]
          refine rgx_t (v := ?_) (some 35) 5 (by kernel_rfl) rfl rfl (.inl ⟨by rfl, fun w' q => ?_⟩) ?_
          rotate_left
          · go_simp <;> with_reducible rfl
          try simp only [Act.put, List.setIfInBounds_toArray, List.set_cons_zero, List.set_cons_succ]
          refine rgx_t (v := ?_) (some 36) 6 (by kernel_rfl) rfl rfl (.inl ⟨by rfl, fun w' q => ?_⟩) ?_
          rotate_left
          · go_simp <;> with_reducible rfl
          try simp only [Act.put, List.setIfInBounds_toArray, List.set_cons_zero, List.set_cons_succ]
          refine rgx_2 1 7 (by kernel_rfl) ?_ ?_
          · refine ⟨_, rfl, by rfl, fun K hK => ?_⟩
            obtain ⟨q4, z4, l4⟩ := HLS.out.2.2.1
            go_simp
            obtain ⟨x1, hE⟩ : ∃ W : World, W = x0 := ⟨_, rfl⟩
            subst hE
            refine hK (fun b => b = w.heap.size + 2 ∨ some b = rw1) _ _ (fun b h => .inl h) (Mem.refl _ _) ?_
            clear q4 z4 l4
            clear hK K
            try simp only [Act.put, List.setIfInBounds_toArray, List.set_cons_zero, List.set_cons_succ]
            refine rgx_1 7 (by kernel_rfl) ?_
            refine ⟨_, rfl, by rfl, fun K hK => ?_⟩
            go_simp
            have hb := (Below.refl x1.heap.size x1).alloc (Nat.le_refl _) (.cells #[.int .u8 ev.val] 5)
            obtain ⟨bl, hbl2⟩ : ∃ bl, x1.heap.size = bl := ⟨_, rfl⟩
            have hRl : Rd (x1.alloc (.cells #[.int .u8 ev.val] 5)) (bl + 1) 1 (some ⟨bl, 0, none⟩) 1 [.int .u8 ev.val] := by rw [← hbl2]; exact Rd.lit rfl (Nat.lt_succ_self _)
            have HLS := Lib.hid (HLS.out.below hb)
            obtain ⟨x2, hW⟩ : ∃ W, x1.alloc (.cells #[.int .u8 ev.val] 5) = W := ⟨_, rfl⟩
            rw [hW] at HLS hRl hb ⊢
            rw [hbl2]
            refine hK (fun b => b = w.heap.size + 2 ∨ some b = rw1) _ _ (fun b h => .inl h) (Mem.of_below hb) ?_
            have HRL := Lib.hid hRl
            clear hb hbl2 hRl hW
            clear hK K
            try simp only [Act.put, List.setIfInBounds_toArray, List.set_cons_zero, List.set_cons_succ]
            refine rgx_1 8 (by kernel_rfl) ?_
            refine ⟨_, rfl, by rfl, fun K hK => ?_⟩
            refine wp_appR (.tmp 31) (.tmp 37) 38 (w.heap.size + 3) 5 _ 1 1 (.slice A2 m cc) m (by8 xs) _ ⟨bl, 0, none⟩ 1 1 [.int .u8 ev.val] Try.underlying38 byteInfo rfl (by decide) rfl rfl rfl (by rw [← HM.out]; have h := HLS.out.2.2.2.1; rw [HM.out] at h ⊢; exact h) HRL.out (one_ints .u8 [ev.val]) (by have := HXL.out; omega) (by omega) (by have := HLS.out.2.2.1.2.2; omega) ?_
            intro v2 x3 hown2 hg2 hn2 hb2
            have hls := HLS.out.app (z := ev.val) (by rw [HM.out]; exact hown2) hg2
            have HLS := Lib.hid hls
            obtain ⟨A3, c3, hv2, _, _⟩ := own_form hown2
            subst hv2
            refine hK (fun b => b = w.heap.size + 2 ∨ some b = rw1) _ _ (fun b h => .inl h) (Mem.of_grown hg2 (fun b e => .inr (by rw [← HRW.out]; exact e.symm))) ?_
            clear hown2 hg2 hn2 hb2 hls
            clear hK K
            try simp only [Act.put, List.setIfInBounds_toArray, List.set_cons_zero, List.set_cons_succ]
            refine rgx_t (v := ?_) (some 39) 9 (by kernel_rfl) rfl rfl (.inl ⟨by rfl, fun w' q => ?_⟩) ?_
            rotate_left
            · go_simp <;> with_reducible rfl
            try simp only [Act.put, List.setIfInBounds_toArray, List.set_cons_zero, List.set_cons_succ]
            refine rgx_1 10 (by kernel_rfl) ?_
            refine ⟨_, rfl, by rfl, fun K hK => ?_⟩
            obtain ⟨q4, z4, l4⟩ := HLS.out.2.2.1
            go_simp
            have hLs := HLS.out.set (k := 0) (u := .slice A3 (m + 1) c3) (cs' := #[.slice A3 (m + 1) c3, .int .i64 e0.at_, .int .i64 el.at_, .int .i64 0]) (by simp) rfl
            have hm : Mem (fun b => b = w.heap.size + 2 ∨ some b = rw1) x3 (x3.setCell ⟨w.heap.size + 2, 0, none⟩ (.slice A3 (m + 1) c3)) := (Mem.refl _ _).of_set (.inl rfl)
            obtain ⟨x4, hW⟩ : ∃ W, (x3.setCell ⟨w.heap.size + 2, 0, none⟩ (.slice A3 (m + 1) c3)) = W := ⟨_, rfl⟩
            rw [hW] at hLs hm ⊢
            refine hK (fun b => b = w.heap.size + 2 ∨ some b = rw1) _ _ (fun b h => .inl h) hm ?_
            have HLS := Lib.hid hLs
            clear q4 z4 l4 hm hLs hW
            clear hK K
            try simp only [Act.put, List.setIfInBounds_toArray, List.set_cons_zero, List.set_cons_succ]
            refine rgx_d (by kernel_rfl) ?_
            go_wp2_with fail
            go_meet
            case rel => exact ⟨_, HLS.out⟩
          · refine ⟨_, rfl, by rfl, fun K hK => ?_⟩
            go_simp
            have hb := (Below.refl x0.heap.size x0).alloc (Nat.le_refl _) (.cells #[.int .u8 ev.val] 5)
            obtain ⟨bl, hbl2⟩ : ∃ bl, x0.heap.size = bl := ⟨_, rfl⟩
            have hRl : Rd (x0.alloc (.cells #[.int .u8 ev.val] 5)) (bl + 1) 1 (some ⟨bl, 0, none⟩) 1 [.int .u8 ev.val] := by rw [← hbl2]; exact Rd.lit rfl (Nat.lt_succ_self _)
            have HLS := Lib.hid (HLS.out.below hb)
            obtain ⟨x1, hW⟩ : ∃ W, x0.alloc (.cells #[.int .u8 ev.val] 5) = W := ⟨_, rfl⟩
            rw [hW] at HLS hRl hb ⊢
            rw [hbl2]
            refine hK (fun b => b = w.heap.size + 2 ∨ some b = rw1) _ _ (fun b h => .inl h) (Mem.of_below hb) ?_
            have HRL := Lib.hid hRl
            clear hb hbl2 hRl hW
            clear hK K
            try simp only [Act.put, List.setIfInBounds_toArray, List.set_cons_zero, List.set_cons_succ]
            refine rgx_1 1 (by kernel_rfl) ?_
            refine ⟨_, rfl, by rfl, fun K hK => ?_⟩
            obtain ⟨q4, z4, l4⟩ := HLS.out.2.2.1
            go_simp
            obtain ⟨x2, hE⟩ : ∃ W : World, W = x1 := ⟨_, rfl⟩
            subst hE
            refine hK (fun b => b = w.heap.size + 2 ∨ some b = rw1) _ _ (fun b h => .inl h) (Mem.refl _ _) ?_
            clear q4 z4 l4
            clear hK K
            try simp only [Act.put, List.setIfInBounds_toArray, List.set_cons_zero, List.set_cons_succ]
            refine rgx_1 8 (by kernel_rfl) ?_
            refine ⟨_, rfl, by rfl, fun K hK => ?_⟩
            refine wp_appR (.tmp 31) (.tmp 37) 38 (w.heap.size + 3) 5 _ 1 1 (.slice A2 m cc) m (by8 xs) _ ⟨bl, 0, none⟩ 1 1 [.int .u8 ev.val] Try.underlying38 byteInfo rfl (by decide) rfl rfl rfl (by rw [← HM.out]; have h := HLS.out.2.2.2.1; rw [HM.out] at h ⊢; exact h) HRL.out (one_ints .u8 [ev.val]) (by have := HXL.out; omega) (by omega) (by have := HLS.out.2.2.1.2.2; omega) ?_
            intro v2 x3 hown2 hg2 hn2 hb2
            have hls := HLS.out.app (z := ev.val) (by rw [HM.out]; exact hown2) hg2
            have HLS := Lib.hid hls
            obtain ⟨A3, c3, hv2, _, _⟩ := own_form hown2
            subst hv2
            refine hK (fun b => b = w.heap.size + 2 ∨ some b = rw1) _ _ (fun b h => .inl h) (Mem.of_grown hg2 (fun b e => .inr (by rw [← HRW.out]; exact e.symm))) ?_
            clear hown2 hg2 hn2 hb2 hls
            clear hK K
            try simp only [Act.put, List.setIfInBounds_toArray, List.set_cons_zero, List.set_cons_succ]
            refine rgx_t (v := ?_) (some 39) 9 (by kernel_rfl) rfl rfl (.inl ⟨by rfl, fun w' q => ?_⟩) ?_
            rotate_left
            · go_simp <;> with_reducible rfl
            try simp only [Act.put, List.setIfInBounds_toArray, List.set_cons_zero, List.set_cons_succ]
            refine rgx_1 10 (by kernel_rfl) ?_
            refine ⟨_, rfl, by rfl, fun K hK => ?_⟩
            obtain ⟨q4, z4, l4⟩ := HLS.out.2.2.1
            go_simp
            have hLs := HLS.out.set (k := 0) (u := .slice A3 (m + 1) c3) (cs' := #[.slice A3 (m + 1) c3, .int .i64 e0.at_, .int .i64 el.at_, .int .i64 0]) (by simp) rfl
            have hm : Mem (fun b => b = w.heap.size + 2 ∨ some b = rw1) x3 (x3.setCell ⟨w.heap.size + 2, 0, none⟩ (.slice A3 (m + 1) c3)) := (Mem.refl _ _).of_set (.inl rfl)
            obtain ⟨x4, hW⟩ : ∃ W, (x3.setCell ⟨w.heap.size + 2, 0, none⟩ (.slice A3 (m + 1) c3)) = W := ⟨_, rfl⟩
            rw [hW] at hLs hm ⊢
            refine hK (fun b => b = w.heap.size + 2 ∨ some b = rw1) _ _ (fun b h => .inl h) hm ?_
            have HLS := Lib.hid hLs
            clear q4 z4 l4 hm hLs hW
            clear hK K
            try simp only [Act.put, List.setIfInBounds_toArray, List.set_cons_zero, List.set_cons_succ]
            refine rgx_d (by kernel_rfl) ?_
            go_wp2_with fail
            go_meet
            case rel => exact ⟨_, HLS.out⟩
        · have hs : ¬ k < 256 := by have := D1.out; simp at this; omega
          rw [if_neg hs] at hxs
          subst hxs
          clear hs
          go_wp2_with fail
          go_meet
          case rel => exact ⟨_, HF1.out⟩
      case rest =>
        obtain ⟨v2, hF2⟩ := hcut
        have HF3 := Lib.hid hF2
        clear hF2 HF1 HXS HM HXL
        obtain ⟨p2, hp2⟩ : ∃ z, (evs.take (k + 1)).any parB = z := ⟨_, rfl⟩
        obtain ⟨f2, hf2⟩ : ∃ z, (evs.take (k + 1)).any frmB = z := ⟨_, rfl⟩
        obtain ⟨g2, hg2⟩ : ∃ z, gapL ch t15 (evs.take (k + 1)) = z := ⟨_, rfl⟩
        have HP3 := Lib.hid (show p2 = (pb || parB ev) by rw [← hp2, HP1.out])
        have HF4 := Lib.hid (show f2 = (fb || frmB ev) by rw [← hf2, HF2.out])
        have HG3 := Lib.hid (show g2 = (gb || (decide (0 < k) && decide (t15 < silR ch (lastD (evs.take k)) ev))) by rw [← hg2, HG1.out])
        have HR2 := Lib.hid (show (evs.take (k + 1)).any parB = p2 ∧ (evs.take (k + 1)).any frmB = f2 ∧ gapL ch t15 (evs.take (k + 1)) = g2 from ⟨hp2, hf2, hg2⟩)
        clear hp2 hf2 hg2 HP1 HF2 HG1
        have hb2c : b0 < wc.heap.size := Nat.lt_of_lt_of_le hb0' HF3.out.2.2.2.2.size
        have cw2 : wc.cell? ⟨b0, off + k * 3 + 2, none⟩ = some (.int .i64 ev.fl) := by
          obtain ⟨b3, off3, hA3, _, hk3, _, _, c3⟩ := ev_at (HR.out.below HF3.out.2.2.2.2 HBB.out) k hlt
          injection hA3 with hA3
          injection hA3 with e1 e2
          subst e1 e2
          have he : evs[k] = ev := by have := HEV.out; rw [List.getElem?_eq_getElem hk3] at this; injection this
          rw [he] at c3
          exact c3
        go_upto_region 8 with fail
        go_cut [6] (fun u x => u = .bool p2 ∧ FrS w x b p #[v2, .int .i64 e0.at_, .int .i64 el.at_, .int .i64 0] v2 xs2)
        case first =>
          cases pb
          · by_cases hz : bits .and .i64 ev.fl 1 = 0
            · have d2 : (bits .and .i64 ev.fl 1 == 0) = true := by simpa using hz
              have HZ := Lib.hid (show p2 = false by rw [HP3.out]; simp [parB, hz])
              clear hz
              go_wp2_with fail
              go_meet
              case rel => exact ⟨by first | (rw [HZ.out]; done) | (rw [HZ.out, bne, d2]; rfl) | (rw [HZ.out]; rfl), HF3.out⟩
            · have d2 : (bits .and .i64 ev.fl 1 == 0) = false := by simpa using hz
              have HZ := Lib.hid (show p2 = true by rw [HP3.out]; simp [parB, hz])
              clear hz
              go_wp2_with fail
              go_meet
              case rel => exact ⟨by first | (rw [HZ.out]; done) | (rw [HZ.out, bne, d2]; rfl) | (rw [HZ.out]; rfl), HF3.out⟩
          · have HZ := Lib.hid (show p2 = true by rw [HP3.out]; rfl)
            go_wp2_with fail
            go_meet
            case rel => exact ⟨by first | (rw [HZ.out]; done) | (rw [HZ.out, bne, d2]; rfl) | (rw [HZ.out]; rfl), HF3.out⟩
        case rest =>
          obtain ⟨rfl, hF2⟩ := hcut
          have HF5 := Lib.hid hF2
          clear hF2 cw2 hb2c HF3
          have hb2c : b0 < wc.heap.size := Nat.lt_of_lt_of_le hb0' HF5.out.2.2.2.2.size
          have cw2 : wc.cell? ⟨b0, off + k * 3 + 2, none⟩ = some (.int .i64 ev.fl) := by
            obtain ⟨b3, off3, hA3, _, hk3, _, _, c3⟩ := ev_at (HR.out.below HF5.out.2.2.2.2 HBB.out) k hlt
            injection hA3 with hA3
            injection hA3 with e1 e2
            subst e1 e2
            have he : evs[k] = ev := by have := HEV.out; rw [List.getElem?_eq_getElem hk3] at this; injection this
            rw [he] at c3
            exact c3
          go_upto_region 9 with fail
          go_cut [7] (fun u x => u = .bool f2 ∧ FrS w x b p #[v2, .int .i64 e0.at_, .int .i64 el.at_, .int .i64 0] v2 xs2)
          case first =>
            cases fb
            · by_cases hz : bits .and .i64 ev.fl 2 = 0
              · have d2 : (bits .and .i64 ev.fl 2 == 0) = true := by simpa using hz
                have HZ := Lib.hid (show f2 = false by rw [HF4.out]; simp [frmB, hz])
                clear hz
                go_wp2_with fail
                go_meet
                case rel => exact ⟨by first | (rw [HZ.out]; done) | (rw [HZ.out, bne, d2]; rfl) | (rw [HZ.out]; rfl), HF5.out⟩
              · have d2 : (bits .and .i64 ev.fl 2 == 0) = false := by simpa using hz
                have HZ := Lib.hid (show f2 = true by rw [HF4.out]; simp [frmB, hz])
                clear hz
                go_wp2_with fail
                go_meet
                case rel => exact ⟨by first | (rw [HZ.out]; done) | (rw [HZ.out, bne, d2]; rfl) | (rw [HZ.out]; rfl), HF5.out⟩
            · have HZ := Lib.hid (show f2 = true by rw [HF4.out]; rfl)
              go_wp2_with fail
              go_meet
              case rel => exact ⟨by first | (rw [HZ.out]; done) | (rw [HZ.out, bne, d2]; rfl) | (rw [HZ.out]; rfl), HF5.out⟩
          case rest =>
            obtain ⟨rfl, hF2⟩ := hcut
            have HF6 := Lib.hid hF2
            clear hF2 cw2 hb2c HF5
            go_upto_region 10 with fail
            have HD := Lib.hid (HF6.out.below (below_drew (Below.refl _ _)))
            have hS0 : wc.drew.cell? ⟨w.heap.size, 0, none⟩ = some (.int .i64 b) ∧ wc.drew.cell? ⟨w.heap.size, 1, none⟩ = some (.int .i64 p) ∧ True := ⟨HD.out.1.1 0, HD.out.1.1 1, trivial⟩
            cases gb
            · by_cases hk0 : 0 < k
              · have d3 : decide (0 < (k : Int)) = true := by simp; omega
                obtain ⟨jk, hjk⟩ : ∃ jk, k = jk + 1 := ⟨k - 1, by omega⟩
                have hjl : jk < evs.length := by have := HEL.out; omega
                have hpx : evs[jk]? = some (lastD (evs.take k)) := by
                  rw [hjk, List.take_succ_eq_append_getElem hjl, lastD_snoc, List.getElem?_eq_getElem hjl]
                have hxin : inR (lastD (evs.take k)) = true := List.all_eq_true.1 HIN.out _ (List.mem_of_getElem? hpx)
                obtain ⟨sv, hsv⟩ : ∃ z, silR ch (lastD (evs.take k)) ev = z := ⟨_, rfl⟩
                have HSL := Lib.hid (fun (W : World) (h : Rd W B 3 (some ⟨b0, off, none⟩) n (evCells evs)) (hB : B ≤ W.heap.size) => rsil_eq b p ch HC.out evs (some ⟨b0, off, none⟩) n c B k jk (lastD (evs.take k)) ev sv W h hB hjk hlt hn hpx (hjk ▸ HEV.out) hxin HIE hsv)
                have HG4 := Lib.hid (show g2 = decide (t15 < sv) by rw [HG3.out, hsv]; simp [hk0])
                clear hjk hjl hpx hxin hsv
                refine rgs_start (fun w' => w'.cell? ⟨w.heap.size, 0, none⟩ = some (.int .i64 b) ∧ w'.cell? ⟨w.heap.size, 1, none⟩ = some (.int .i64 p) ∧ True) (by kernel_rfl) ?_
                refine rgs_t (v := ?_) (some 60) 0 (by kernel_rfl) rfl rfl (by assumption) (.inl ⟨by rfl, fun w' hw => ?_⟩) ?_
                rotate_left
                · obtain ⟨q1, q2, q3⟩ := hw; go_simp <;> with_reducible rfl
                try simp only [Act.put, List.setIfInBounds_toArray, List.set_cons_zero, List.set_cons_succ]
                refine rgs_t (v := ?_) (some 61) 1 (by kernel_rfl) rfl rfl (by assumption) (.inl ⟨by rfl, fun w' hw => ?_⟩) ?_
                rotate_left
                · obtain ⟨q1, q2, q3⟩ := hw; go_simp <;> with_reducible rfl
                try simp only [Act.put, List.setIfInBounds_toArray, List.set_cons_zero, List.set_cons_succ]
                refine rgs_t (v := ?_) (some 62) 2 (by kernel_rfl) rfl rfl (by assumption) (.inl ⟨by rfl, fun w' hw => ?_⟩) ?_
                rotate_left
                · obtain ⟨q1, q2, q3⟩ := hw; go_simp <;> with_reducible rfl
                try simp only [Act.put, List.setIfInBounds_toArray, List.set_cons_zero, List.set_cons_succ]
                refine rgs_t (v := ?_) (some 63) 3 (by kernel_rfl) rfl rfl (by assumption) (.inl ⟨by rfl, fun w' hw => ?_⟩) ?_
                rotate_left
                · obtain ⟨q1, q2, q3⟩ := hw; go_simp <;> with_reducible rfl
                try simp only [Act.put, List.setIfInBounds_toArray, List.set_cons_zero, List.set_cons_succ]
                refine rgs_t (v := ?_) (some 64) 4 (by kernel_rfl) rfl rfl (by assumption) (.inl ⟨by rfl, fun w' hw => ?_⟩) ?_
                rotate_left
                · obtain ⟨q1, q2, q3⟩ := hw; go_simp <;> with_reducible rfl
                try simp only [Act.put, List.setIfInBounds_toArray, List.set_cons_zero, List.set_cons_succ]
                refine rgs_t (v := ?_) (some 65) 5 (by kernel_rfl) rfl rfl (by assumption) (.inl ⟨by rfl, fun w' hw => ?_⟩) ?_
                rotate_left
                · obtain ⟨q1, q2, q3⟩ := hw; go_simp <;> with_reducible rfl
                try simp only [Act.put, List.setIfInBounds_toArray, List.set_cons_zero, List.set_cons_succ]
                refine rgs_t (v := ?_) (some 66) 6 (by kernel_rfl) rfl rfl (by assumption) (.inl ⟨by rfl, fun w' hw => ?_⟩) ?_
                rotate_left
                · obtain ⟨q1, q2, q3⟩ := hw; go_simp <;> with_reducible rfl
                try simp only [Act.put, List.setIfInBounds_toArray, List.set_cons_zero, List.set_cons_succ]
                refine rgs_t (v := ?_) (some 67) 7 (by kernel_rfl) rfl rfl (by assumption) (.inl ⟨by rfl, fun w' hw => ?_⟩) ?_
                rotate_left
                · obtain ⟨q1, q2, q3⟩ := hw; go_simp <;> with_reducible rfl
                try simp only [Act.put, List.setIfInBounds_toArray, List.set_cons_zero, List.set_cons_succ]
                refine rgs_t (v := ?_) (some 69) 9 (by kernel_rfl) rfl rfl (by assumption) (.inl ⟨by rfl, fun w' hw => ?_⟩) ?_
                rotate_left
                · obtain ⟨q1, q2, q3⟩ := hw; go_simp <;> with_reducible rfl
                try simp only [Act.put, List.setIfInBounds_toArray, List.set_cons_zero, List.set_cons_succ]
                refine rgs_c 8 (by kernel_rfl) rfl (by rfl) (fun K hK => ?_)
                go_simp
                refine (HSL.out _ (HR.out.below HD.out.2.2.2.2 HBB.out) (Nat.le_trans HBB.out HD.out.2.2.2.2.size)).mono ?_
                rintro e x5 ⟨rfl, hb5⟩
                have HD5 := Lib.hid (HD.out.below hb5)
                have hS5 : x5.cell? ⟨w.heap.size, 0, none⟩ = some (.int .i64 b) ∧ x5.cell? ⟨w.heap.size, 1, none⟩ = some (.int .i64 p) ∧ True := ⟨HD5.out.1.1 0, HD5.out.1.1 1, trivial⟩
                refine hK _ _ hS5 ?_
                clear hb5 HD hS0
                clear hK K
                try simp only [Act.put, List.setIfInBounds_toArray, List.set_cons_zero, List.set_cons_succ]
                refine rgs_c 10 (by kernel_rfl) rfl (by rfl) (fun K hK => ?_)
                go_simp
                refine (HT.out _).mono ?_
                rintro e x6 ⟨rfl, hb6⟩
                have HD6 := Lib.hid (HD5.out.below hb6)
                have hS6 : x6.cell? ⟨w.heap.size, 0, none⟩ = some (.int .i64 b) ∧ x6.cell? ⟨w.heap.size, 1, none⟩ = some (.int .i64 p) ∧ True := ⟨HD6.out.1.1 0, HD6.out.1.1 1, trivial⟩
                refine hK _ _ hS6 ?_
                clear hb6 HD5 hS5
                clear hK K
                try simp only [Act.put, List.setIfInBounds_toArray, List.set_cons_zero, List.set_cons_succ]
                refine rgs_t (v := ?_) (some 71) 11 (by kernel_rfl) rfl rfl (by assumption) (.inl ⟨by rfl, fun w' hw => ?_⟩) ?_
                rotate_left
                · obtain ⟨q1, q2, q3⟩ := hw; go_simp <;> with_reducible rfl
                try simp only [Act.put, List.setIfInBounds_toArray, List.set_cons_zero, List.set_cons_succ]
                refine rgs_t (v := ?_) (some 72) 12 (by kernel_rfl) rfl rfl (by assumption) (.inl ⟨by rfl, fun w' hw => ?_⟩) ?_
                rotate_left
                · obtain ⟨q1, q2, q3⟩ := hw; go_simp <;> with_reducible rfl
                try simp only [Act.put, List.setIfInBounds_toArray, List.set_cons_zero, List.set_cons_succ]
                refine rgs_t (v := ?_) (some 73) 13 (by kernel_rfl) rfl rfl (by assumption) (.inl ⟨by rfl, fun w' hw => ?_⟩) ?_
                rotate_left
                · obtain ⟨q1, q2, q3⟩ := hw; go_simp <;> with_reducible rfl
                try simp only [Act.put, List.setIfInBounds_toArray, List.set_cons_zero, List.set_cons_succ]
                refine rgs_t (v := ?_) (some 8) 14 (by kernel_rfl) rfl rfl (by assumption) (.inl ⟨by rfl, fun w' hw => ?_⟩) ?_
                rotate_left
                · obtain ⟨q1, q2, q3⟩ := hw; go_simp <;> with_reducible rfl
                try simp only [Act.put, List.setIfInBounds_toArray, List.set_cons_zero, List.set_cons_succ]
                refine rgs_d (by kernel_rfl) ?_
                go_wp2_with fail
                go_roundw
                case rel =>
                  exact ⟨k + 1, v2, by rw [HR2.out.1], by rw [HR2.out.2.1], by rw [HR2.out.2.2, HG4.out], by go_num, by omega, by rw [HX2.out]; exact HD6.out⟩
                case measure => simp [intOf]; omega
              · have d3 : decide (0 < (k : Int)) = false := by simp; omega
                have HG4 := Lib.hid (show g2 = false by rw [HG3.out]; simp [hk0])
                refine rgs_start (fun w' => w'.cell? ⟨w.heap.size, 0, none⟩ = some (.int .i64 b) ∧ w'.cell? ⟨w.heap.size, 1, none⟩ = some (.int .i64 p) ∧ True) (by kernel_rfl) ?_
                refine rgs_t (v := ?_) (some 60) 0 (by kernel_rfl) rfl rfl (by assumption) (.inl ⟨by rfl, fun w' hw => ?_⟩) ?_
                rotate_left
                · obtain ⟨q1, q2, q3⟩ := hw; go_simp <;> with_reducible rfl
                try simp only [Act.put, List.setIfInBounds_toArray, List.set_cons_zero, List.set_cons_succ]
                refine rgs_t (v := ?_) (some 61) 1 (by kernel_rfl) rfl rfl (by assumption) (.inl ⟨by rfl, fun w' hw => ?_⟩) ?_
                rotate_left
                · obtain ⟨q1, q2, q3⟩ := hw; go_simp <;> with_reducible rfl
                try simp only [Act.put, List.setIfInBounds_toArray, List.set_cons_zero, List.set_cons_succ]
                refine rgs_t (v := ?_) (some 62) 2 (by kernel_rfl) rfl rfl (by assumption) (.inl ⟨by rfl, fun w' hw => ?_⟩) ?_
                rotate_left
                · obtain ⟨q1, q2, q3⟩ := hw; go_simp <;> with_reducible rfl
                try simp only [Act.put, List.setIfInBounds_toArray, List.set_cons_zero, List.set_cons_succ]
                refine rgs_t (v := ?_) (some 63) 3 (by kernel_rfl) rfl rfl (by assumption) (.inl ⟨by rfl, fun w' hw => ?_⟩) ?_
                rotate_left
                · obtain ⟨q1, q2, q3⟩ := hw; go_simp <;> with_reducible rfl
                try simp only [Act.put, List.setIfInBounds_toArray, List.set_cons_zero, List.set_cons_succ]
                refine rgs_t (v := ?_) (some 64) 4 (by kernel_rfl) rfl rfl (by assumption) (.inl ⟨by rfl, fun w' hw => ?_⟩) ?_
                rotate_left
                · obtain ⟨q1, q2, q3⟩ := hw; go_simp <;> with_reducible rfl
                try simp only [Act.put, List.setIfInBounds_toArray, List.set_cons_zero, List.set_cons_succ]
                refine rgs_t (some 65) 5 (by kernel_rfl) rfl rfl (by assumption) (.inr ⟨by rfl, rfl⟩) ?_
                try simp only [Act.put, List.setIfInBounds_toArray, List.set_cons_zero, List.set_cons_succ]
                refine rgs_t (some 66) 6 (by kernel_rfl) rfl rfl (by assumption) (.inr ⟨by rfl, rfl⟩) ?_
                try simp only [Act.put, List.setIfInBounds_toArray, List.set_cons_zero, List.set_cons_succ]
                refine rgs_t (some 67) 7 (by kernel_rfl) rfl rfl (by assumption) (.inr ⟨by rfl, rfl⟩) ?_
                try simp only [Act.put, List.setIfInBounds_toArray, List.set_cons_zero, List.set_cons_succ]
                refine rgs_t (some 68) 8 (by kernel_rfl) rfl rfl (by assumption) (.inr ⟨by rfl, rfl⟩) ?_
                try simp only [Act.put, List.setIfInBounds_toArray, List.set_cons_zero, List.set_cons_succ]
                refine rgs_t (some 69) 9 (by kernel_rfl) rfl rfl (by assumption) (.inr ⟨by rfl, rfl⟩) ?_
                try simp only [Act.put, List.setIfInBounds_toArray, List.set_cons_zero, List.set_cons_succ]
                refine rgs_t (some 70) 10 (by kernel_rfl) rfl rfl (by assumption) (.inr ⟨by rfl, rfl⟩) ?_
                try simp only [Act.put, List.setIfInBounds_toArray, List.set_cons_zero, List.set_cons_succ]
                refine rgs_t (some 71) 11 (by kernel_rfl) rfl rfl (by assumption) (.inr ⟨by rfl, rfl⟩) ?_
                try simp only [Act.put, List.setIfInBounds_toArray, List.set_cons_zero, List.set_cons_succ]
                refine rgs_t (v := ?_) (some 72) 12 (by kernel_rfl) rfl rfl (by assumption) (.inl ⟨by rfl, fun w' hw => ?_⟩) ?_
                rotate_left
                · obtain ⟨q1, q2, q3⟩ := hw; go_simp <;> with_reducible rfl
                try simp only [Act.put, List.setIfInBounds_toArray, List.set_cons_zero, List.set_cons_succ]
                refine rgs_t (v := ?_) (some 73) 13 (by kernel_rfl) rfl rfl (by assumption) (.inl ⟨by rfl, fun w' hw => ?_⟩) ?_
                rotate_left
                · obtain ⟨q1, q2, q3⟩ := hw; go_simp <;> with_reducible rfl
                try simp only [Act.put, List.setIfInBounds_toArray, List.set_cons_zero, List.set_cons_succ]
                refine rgs_t (v := ?_) (some 8) 14 (by kernel_rfl) rfl rfl (by assumption) (.inl ⟨by rfl, fun w' hw => ?_⟩) ?_
                rotate_left
                · obtain ⟨q1, q2, q3⟩ := hw; go_simp <;> with_reducible rfl
                try simp only [Act.put, List.setIfInBounds_toArray, List.set_cons_zero, List.set_cons_succ]
                refine rgs_d (by kernel_rfl) ?_
                go_wp2_with fail
                go_roundw
                case rel =>
                  exact ⟨k + 1, v2, by rw [HR2.out.1], by rw [HR2.out.2.1], by rw [HR2.out.2.2, HG4.out], by go_num, by omega, by rw [HX2.out]; exact HD.out⟩
                case measure => simp [intOf]; omega
            · have HG4 := Lib.hid (show g2 = true by rw [HG3.out]; rfl)
              refine rgs_start (fun w' => w'.cell? ⟨w.heap.size, 0, none⟩ = some (.int .i64 b) ∧ w'.cell? ⟨w.heap.size, 1, none⟩ = some (.int .i64 p) ∧ True) (by kernel_rfl) ?_
              refine rgs_t (v := ?_) (some 60) 0 (by kernel_rfl) rfl rfl (by assumption) (.inl ⟨by rfl, fun w' hw => ?_⟩) ?_
              rotate_left
              · obtain ⟨q1, q2, q3⟩ := hw; go_simp <;> with_reducible rfl
              try simp only [Act.put, List.setIfInBounds_toArray, List.set_cons_zero, List.set_cons_succ]
              refine rgs_t (v := ?_) (some 61) 1 (by kernel_rfl) rfl rfl (by assumption) (.inl ⟨by rfl, fun w' hw => ?_⟩) ?_
              rotate_left
              · obtain ⟨q1, q2, q3⟩ := hw; go_simp <;> with_reducible rfl
              try simp only [Act.put, List.setIfInBounds_toArray, List.set_cons_zero, List.set_cons_succ]
              refine rgs_t (some 62) 2 (by kernel_rfl) rfl rfl (by assumption) (.inr ⟨by rfl, rfl⟩) ?_
              try simp only [Act.put, List.setIfInBounds_toArray, List.set_cons_zero, List.set_cons_succ]
              refine rgs_t (some 63) 3 (by kernel_rfl) rfl rfl (by assumption) (.inr ⟨by rfl, rfl⟩) ?_
              try simp only [Act.put, List.setIfInBounds_toArray, List.set_cons_zero, List.set_cons_succ]
              refine rgs_t (some 64) 4 (by kernel_rfl) rfl rfl (by assumption) (.inr ⟨by rfl, rfl⟩) ?_
              try simp only [Act.put, List.setIfInBounds_toArray, List.set_cons_zero, List.set_cons_succ]
              refine rgs_t (some 65) 5 (by kernel_rfl) rfl rfl (by assumption) (.inr ⟨by rfl, rfl⟩) ?_
              try simp only [Act.put, List.setIfInBounds_toArray, List.set_cons_zero, List.set_cons_succ]
              refine rgs_t (some 66) 6 (by kernel_rfl) rfl rfl (by assumption) (.inr ⟨by rfl, rfl⟩) ?_
              try simp only [Act.put, List.setIfInBounds_toArray, List.set_cons_zero, List.set_cons_succ]
              refine rgs_t (some 67) 7 (by kernel_rfl) rfl rfl (by assumption) (.inr ⟨by rfl, rfl⟩) ?_
              try simp only [Act.put, List.setIfInBounds_toArray, List.set_cons_zero, List.set_cons_succ]
              refine rgs_t (some 68) 8 (by kernel_rfl) rfl rfl (by assumption) (.inr ⟨by rfl, rfl⟩) ?_
              try simp only [Act.put, List.setIfInBounds_toArray, List.set_cons_zero, List.set_cons_succ]
              refine rgs_t (some 69) 9 (by kernel_rfl) rfl rfl (by assumption) (.inr ⟨by rfl, rfl⟩) ?_
              try simp only [Act.put, List.setIfInBounds_toArray, List.set_cons_zero, List.set_cons_succ]
              refine rgs_t (some 70) 10 (by kernel_rfl) rfl rfl (by assumption) (.inr ⟨by rfl, rfl⟩) ?_
              try simp only [Act.put, List.setIfInBounds_toArray, List.set_cons_zero, List.set_cons_succ]
              refine rgs_t (some 71) 11 (by kernel_rfl) rfl rfl (by assumption) (.inr ⟨by rfl, rfl⟩) ?_
              try simp only [Act.put, List.setIfInBounds_toArray, List.set_cons_zero, List.set_cons_succ]
              refine rgs_t (some 72) 12 (by kernel_rfl) rfl rfl (by assumption) (.inr ⟨by rfl, rfl⟩) ?_
              try simp only [Act.put, List.setIfInBounds_toArray, List.set_cons_zero, List.set_cons_succ]
              refine rgs_t (v := ?_) (some 73) 13 (by kernel_rfl) rfl rfl (by assumption) (.inl ⟨by rfl, fun w' hw => ?_⟩) ?_
              rotate_left
              · obtain ⟨q1, q2, q3⟩ := hw; go_simp <;> with_reducible rfl
              try simp only [Act.put, List.setIfInBounds_toArray, List.set_cons_zero, List.set_cons_succ]
              refine rgs_t (v := ?_) (some 8) 14 (by kernel_rfl) rfl rfl (by assumption) (.inl ⟨by rfl, fun w' hw => ?_⟩) ?_
              rotate_left
              · obtain ⟨q1, q2, q3⟩ := hw; go_simp <;> with_reducible rfl
              try simp only [Act.put, List.setIfInBounds_toArray, List.set_cons_zero, List.set_cons_succ]
              refine rgs_d (by kernel_rfl) ?_
              go_wp2_with fail
              go_roundw
              case rel =>
                exact ⟨k + 1, v2, by rw [HR2.out.1], by rw [HR2.out.2.1], by rw [HR2.out.2.2, HG4.out], by go_num, by omega, by rw [HX2.out]; exact HD.out⟩
              case measure => simp [intOf]; omega
    · obtain rfl : k = n := by omega
      have htk : evs.take k = evs := List.take_of_length_le (by rw [HEL.out]; exact Nat.le_refl _)
      rw [htk] at HF1
      rw [htk]
      obtain ⟨pb, hpb⟩ : ∃ z, evs.any parB = z := ⟨_, rfl⟩
      obtain ⟨fb, hfb⟩ : ∃ z, evs.any frmB = z := ⟨_, rfl⟩
      obtain ⟨gb, hgb⟩ : ∃ z, gapL ch t15 evs = z := ⟨_, rfl⟩
      obtain ⟨xs, hxs⟩ : ∃ xs, (evs.take 256).map Ev.val = xs := ⟨_, rfl⟩
      rw [hpb, hfb, hgb]
      rw [hxs] at HF1
      have hfx := HFX.out
      rw [hpb, hfb, hgb, hxs] at hfx
      have HFX2 := Lib.hid hfx
      obtain ⟨lb, hlb⟩ : ∃ z, decide (256 < (k : Int)) = z := ⟨_, rfl⟩
      have HLB := Lib.hid (show decide (256 < k) = lb by rw [← hlb, decide_eq_decide]; omega)
      obtain ⟨A2, cc, hv, _, _⟩ := own_form HF1.out.2.2.2.1
      subst hv
      clear htk hpb hfb hgb hxs hfx HFX hlt
      obtain ⟨z0, hz0⟩ : ∃ z : Int, z = 0 := ⟨_, rfl⟩
      rw [show (Value.int .i64 0) = Value.int .i64 z0 by rw [hz0]] at HF1
      obtain ⟨z1, hz1⟩ : ∃ z, flg pb false false false = z := ⟨_, rfl⟩
      obtain ⟨z2, hz2⟩ : ∃ z, flg pb fb false false = z := ⟨_, rfl⟩
      obtain ⟨z3, hz3⟩ : ∃ z, flg pb fb gb false = z := ⟨_, rfl⟩
      obtain ⟨z4, hz4⟩ : ∃ z, flg pb fb gb lb = z := ⟨_, rfl⟩
      have HE1 := Lib.hid (show z1 = if pb then z0 + 1 else z0 by rw [← hz1, hz0]; cases pb <;> decide)
      have HE2 := Lib.hid (show z2 = if fb then z1 + 2 else z1 by rw [← hz2, ← hz1, flg_s2])
      have HE3 := Lib.hid (show z3 = if gb then z2 + 4 else z2 by rw [← hz3, ← hz2, flg_s3])
      have HE4 := Lib.hid (show z4 = if lb then z3 + 8 else z3 by rw [← hz4, ← hz3, flg_s4])
      have hb1 := flg_le pb false false false
      have hb2 := flg_le pb fb false false
      have hb3 := flg_le pb fb gb false
      rw [hz1] at hb1
      rw [hz2] at hb2
      rw [hz3] at hb3
      have hb0z : 0 ≤ z0 ∧ z0 ≤ 15 := by omega
      have hfx := HFX2.out
      rw [HLB.out, hz4] at hfx
      have HFX3 := Lib.hid hfx
      clear hfx HFX2 hz0 hz1 hz2 hz3 hz4
      go_upto_if 74 with fail
      go_cut [] (fun x => FrS w x b p #[.slice A2 xs.length cc, .int .i64 e0.at_, .int .i64 el.at_, .int .i64 z1] (.slice A2 xs.length cc) xs)
      case first =>
        have hz := HE1.out
        obtain ⟨q4, zq4, l4⟩ := HF1.out.2.2.1
        cases pb
        · have HZ := Lib.hid (show z1 = z0 by rw [hz]; rfl)
          clear hz q4 zq4 l4
          go_wp2_with fail
          go_meet
          case rel => rw [HZ.out]; exact HF1.out
        · have hz2 : z1 = z0 + 1 := by rw [hz]; rfl
          have k9 : IntKind.i64.wrap (z0 + 1) = z0 + 1 := IntWalk.i64_in _ ⟨by omega, by omega⟩
          have hfs := HF1.out.set (k := 3) (u := .int .i64 (z0 + 1)) (cs' := #[.slice A2 xs.length cc, .int .i64 e0.at_, .int .i64 el.at_, .int .i64 (z0 + 1)]) (by simp) rfl
          have HZ := Lib.hid hz2
          have HFN := Lib.hid hfs
          clear hz hz2 hfs
          go_wp2_with fail
          go_meet
          case rel => rw [HZ.out]; exact HFN.out
      case rest =>
      have HG1 := Lib.hid hcut
      clear hcut HF1
      go_upto_if 79 with fail
      go_cut [] (fun x => FrS w x b p #[.slice A2 xs.length cc, .int .i64 e0.at_, .int .i64 el.at_, .int .i64 z2] (.slice A2 xs.length cc) xs)
      case first =>
        have hz := HE2.out
        obtain ⟨q4, zq4, l4⟩ := HG1.out.2.2.1
        cases fb
        · have HZ := Lib.hid (show z2 = z1 by rw [hz]; rfl)
          clear hz q4 zq4 l4
          go_wp2_with fail
          go_meet
          case rel => rw [HZ.out]; exact HG1.out
        · have hz2 : z2 = z1 + 2 := by rw [hz]; rfl
          have k9 : IntKind.i64.wrap (z1 + 2) = z1 + 2 := IntWalk.i64_in _ ⟨by omega, by omega⟩
          have hfs := HG1.out.set (k := 3) (u := .int .i64 (z1 + 2)) (cs' := #[.slice A2 xs.length cc, .int .i64 e0.at_, .int .i64 el.at_, .int .i64 (z1 + 2)]) (by simp) rfl
          have HZ := Lib.hid hz2
          have HFN := Lib.hid hfs
          clear hz hz2 hfs
          go_wp2_with fail
          go_meet
          case rel => rw [HZ.out]; exact HFN.out
      case rest =>
      have HG2 := Lib.hid hcut
      clear hcut HG1
      go_upto_if 84 with fail
      go_cut [] (fun x => FrS w x b p #[.slice A2 xs.length cc, .int .i64 e0.at_, .int .i64 el.at_, .int .i64 z3] (.slice A2 xs.length cc) xs)
      case first =>
        have hz := HE3.out
        obtain ⟨q4, zq4, l4⟩ := HG2.out.2.2.1
        cases gb
        · have HZ := Lib.hid (show z3 = z2 by rw [hz]; rfl)
          clear hz q4 zq4 l4
          go_wp2_with fail
          go_meet
          case rel => rw [HZ.out]; exact HG2.out
        · have hz2 : z3 = z2 + 4 := by rw [hz]; rfl
          have k9 : IntKind.i64.wrap (z2 + 4) = z2 + 4 := IntWalk.i64_in _ ⟨by omega, by omega⟩
          have hfs := HG2.out.set (k := 3) (u := .int .i64 (z2 + 4)) (cs' := #[.slice A2 xs.length cc, .int .i64 e0.at_, .int .i64 el.at_, .int .i64 (z2 + 4)]) (by simp) rfl
          have HZ := Lib.hid hz2
          have HFN := Lib.hid hfs
          clear hz hz2 hfs
          go_wp2_with fail
          go_meet
          case rel => rw [HZ.out]; exact HFN.out
      case rest =>
      have HG3 := Lib.hid hcut
      clear hcut HG2
      have d9 : decide (256 < (k : Int)) = lb := hlb
      go_upto_if 91 with fail
      clear d9
      go_cut [] (fun x => FrS w x b p #[.slice A2 xs.length cc, .int .i64 e0.at_, .int .i64 el.at_, .int .i64 z4] (.slice A2 xs.length cc) xs)
      case first =>
        have hz := HE4.out
        obtain ⟨q4, zq4, l4⟩ := HG3.out.2.2.1
        cases lb
        · have HZ := Lib.hid (show z4 = z3 by rw [hz]; rfl)
          clear hz q4 zq4 l4
          go_wp2_with fail
          go_meet
          case rel => rw [HZ.out]; exact HG3.out
        · have hz2 : z4 = z3 + 8 := by rw [hz]; rfl
          have k9 : IntKind.i64.wrap (z3 + 8) = z3 + 8 := IntWalk.i64_in _ ⟨by omega, by omega⟩
          have hfs := HG3.out.set (k := 3) (u := .int .i64 (z3 + 8)) (cs' := #[.slice A2 xs.length cc, .int .i64 e0.at_, .int .i64 el.at_, .int .i64 (z3 + 8)]) (by simp) rfl
          have HZ := Lib.hid hz2
          have HFN := Lib.hid hfs
          clear hz hz2 hfs
          go_wp2_with fail
          go_meet
          case rel => rw [HZ.out]; exact HFN.out
      case rest =>
      have HG4 := Lib.hid hcut
      clear hcut HG3
      have hf4 := HFX3.out
      subst hf4
      have hown := HG4.out.2.2.2.1
      have hbw := HG4.out.2.2.2.2
      have HBz := Lib.hid ((((HG4.out.2.1.set (k := 0) (v := .slice A2 xs.length cc) (cs' := #[.slice A2 xs.length cc, .int .i64 0, .int .i64 0, .int .i64 0]) (by simp) rfl).set (k := 1) (v := .int .i64 e0.at_) (cs' := #[.slice A2 xs.length cc, .int .i64 e0.at_, .int .i64 0, .int .i64 0]) (by simp) rfl).set (k := 2) (v := .int .i64 el.at_) (cs' := #[.slice A2 xs.length cc, .int .i64 e0.at_, .int .i64 el.at_, .int .i64 0]) (by simp) rfl).set (k := 3) (v := .int .i64 z4) (cs' := #[.slice A2 xs.length cc, .int .i64 e0.at_, .int .i64 el.at_, .int .i64 z4]) (by simp) rfl)
      have HOZ := Lib.hid (ownsRow_setCell_below (ownsRow_setCell_below (ownsRow_setCell_below (ownsRow_setCell_below hown (a := ⟨w.heap.size + 1, 0, none⟩) (show w.heap.size + 1 < w.heap.size + 3 by omega) (.slice A2 xs.length cc)) (a := ⟨w.heap.size + 1, 1, none⟩) (show w.heap.size + 1 < w.heap.size + 3 by omega) (.int .i64 e0.at_)) (a := ⟨w.heap.size + 1, 2, none⟩) (show w.heap.size + 1 < w.heap.size + 3 by omega) (.int .i64 el.at_)) (a := ⟨w.heap.size + 1, 3, none⟩) (show w.heap.size + 1 < w.heap.size + 3 by omega) (.int .i64 z4))
      have HWZ := Lib.hid ((((hbw.setCell (p := ⟨w.heap.size + 1, 0, none⟩) (by show w.heap.size ≤ w.heap.size + 1; omega) (.slice A2 xs.length cc)).setCell (p := ⟨w.heap.size + 1, 1, none⟩) (by show w.heap.size ≤ w.heap.size + 1; omega) (.int .i64 e0.at_)).setCell (p := ⟨w.heap.size + 1, 2, none⟩) (by show w.heap.size ≤ w.heap.size + 1; omega) (.int .i64 el.at_)).setCell (p := ⟨w.heap.size + 1, 3, none⟩) (by show w.heap.size ≤ w.heap.size + 1; omega) (.int .i64 z4))
      obtain ⟨q4, zz4, l4⟩ := HG4.out.2.2.1
      obtain ⟨q5, zz5, l5⟩ := HG4.out.2.1
      clear hown hbw
      go_wp2
      obtain ⟨qz, zz, lz⟩ := HBz.out
      exact bodyPost_ret (v := .agg #[.slice A2 xs.length cc, .int .i64 e0.at_, .int .i64 el.at_, .int .i64 z4]) (by simp [results, Try.results28, go_sem, qz, zz, lz]) rfl ⟨A2, cc, rfl, own_mono HOZ.out (by omega), HWZ.out⟩
end Go.Proofs.Ythgapllfjllnfaa

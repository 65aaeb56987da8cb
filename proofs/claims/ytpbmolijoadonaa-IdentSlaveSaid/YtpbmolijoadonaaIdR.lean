/- Layer 22: contracts of Result (the program's and the reference's), SameObjects. -/
import Derived.Test.YtpbmolijoadonaaIdN
import Derived.Test.YtpbmolijoadonaaRegG
import Derived.Deep.DeepCutAuto
import Derived.OwnWalk
set_option linter.unusedVariables false
set_option linter.unusedSimpArgs false
namespace Go.Proofs.Ytpbmolijoadonaa
open Go.RowKit

/-- A list of objects that is read. -/
def ObRd (w : World) (A : Option Addr) (l : List Ob) : Prop := Rd w w.heap.size 2 A l.length (obCells l) ∧ ∀ x ∈ l, Rd w w.heap.size 1 x.A x.n (by8 x.val)
theorem ObRd.below {w w' : World} {A : Option Addr} {l : List Ob} (h : ObRd w A l) (hb : Below w.heap.size w w') : ObRd w' A l :=
  ⟨(h.1.below hb (Nat.le_refl _)).more hb.size, fun x hx => ((h.2 x hx).below hb (Nat.le_refl _)).more hb.size⟩
def resL (S : Ist) : Int := if S.st = 2 then S.lv else 0
def resO (S : Ist) : List (Int × List Int) := if S.st = 2 then S.os else []
def ResOk (S : Ist) (w : World) (e : Ending) (w' : World) : Prop := ∃ (A : Option Addr) (n c : Nat) (l : List Ob), e = .returned (.tuple #[.int .i64 S.st, .int .i64 (resL S), .slice A n c]) ∧ ObRd w' A l ∧ l.length = n ∧ con l = resO S ∧ Below w.heap.size w w'
/-- The state within Result's loop. -/
def RsS (w0 w : World) (g : Nat) (v : Value) (l : List Ob) : Prop := w.ownsRow w0.heap.size 48 2 v l.length (obCells l) ∧ Vals w g v.ownBlock (fun _ => False) l ∧ Below w0.heap.size w0 w
theorem RsS.below {w0 w w' : World} {g : Nat} {v : Value} {l : List Ob} (h : RsS w0 w g v l) (hb : Below w.heap.size w w') : RsS w0 w' g v l :=
  ⟨own_below h.1 hb (Nat.le_refl _), h.2.1.below hb, ext_trans h.2.2 hb⟩
theorem RsS.app {w0 w w' : World} {g : Nat} {v v' : Value} {l : List Ob} {x : Ob} (h : RsS w0 w g v l)
    (hown : w'.ownsRow w0.heap.size 48 2 v' (l.length + 1) (obCells l ++ [.int .i64 x.id, .slice x.A x.n x.c])) (hg : w.grownBy w' v.ownBlock) (hn : OwnNext w v v') (hx : Rd w w.heap.size 1 x.A x.n (by8 x.val)) (hxb : 0 < x.n → ∀ b off, x.A = some ⟨b, off, none⟩ → b ≠ g ∧ some b ≠ v.ownBlock ∧ ¬ False) :
    RsS w0 w' g v' (l ++ [x]) := by
  obtain ⟨h2, h4, h8⟩ := h
  have hnew : v'.ownBlock = v.ownBlock ∨ ∃ b, v'.ownBlock = some b ∧ w.heap.size ≤ b := hn
  have hvals : Vals w g v.ownBlock (fun _ => False) (l ++ [x]) := by
    refine h4.append fun o ho => ?_
    obtain rfl : o = x := by simpa using ho
    exact ⟨hx, hxb⟩
  refine ⟨by rw [obCells_append, List.length_append]; exact hown, ?_, below_row h8 h2 hg (Nat.le_refl _) h8.size⟩
  have k1 : Vals w g v'.ownBlock (fun _ => False) (l ++ [x]) := hvals.turn hnew (fun b hf => .inl hf)
  have k2 : Vals w' g v.ownBlock (fun _ => False) (l ++ [x]) := hvals.other hg.size (fun b hlt _ hr _ => hg.block b hlt hr)
  exact fun o ho => ⟨(k2 o ho).1, (k1 o ho).2⟩
theorem con_snoc2 (l : List Ob) (k : Nat) (hk : k < l.length) : con (l.take (k + 1)) = con (l.take k) ++ [(l[k].id, l[k].val)] := by
  rw [List.take_succ_eq_append_getElem hk, con, List.map_append]; rfl

set_option maxRecDepth 100000 in
set_option maxHeartbeats 8000000 in
theorem result_any (S : Ist) (g : Nat) (F : Nat → Prop) (row : Option Nat) (w : World) (hS : IdAt w g F row S) (hlen : S.st = 2 → S.os.length ≤ 2000 ∧ ∀ x ∈ S.os, x.2.length ≤ 300) :
    Calls Try.prog 12 #[iptr g] w (ResOk S w) := by
  obtain ⟨lv, nx, rp, v, l, hrow, hB, hO, hfr, hV, h4, h5⟩ := hS
  obtain ⟨q0, z0, lz0⟩ := hB
  by_cases h2 : S.st = 2
  · obtain ⟨rfl, hcon⟩ := h4 (.inr h2)
    obtain ⟨hl1, hl2⟩ := hlen h2
    have hL : resL S = S.lv := by rw [resL, if_pos h2]
    have hR : resO S = S.os := by rw [resO, if_pos h2]
    rw [h2] at q0
    have hfin : ∀ e w', ResOk S w e w' ↔ ∃ (A : Option Addr) (n c : Nat) (l : List Ob), e = .returned (.tuple #[.int .i64 2, .int .i64 S.lv, .slice A n c]) ∧ ObRd w' A l ∧ l.length = n ∧ con l = S.os ∧ Below w.heap.size w w' := fun e w' => by rw [ResOk, hL, hR, h2]
    have HFN := Lib.hid hfin
    obtain ⟨A0, c0, hv0, _, hR0⟩ := own_form hO
    subst hv0
    obtain ⟨n, hn⟩ : ∃ n, l.length = n := ⟨_, rfl⟩
    have hn2 : n ≤ 2000 := by rw [← hn]; have := congrArg List.length hcon; simp only [con, List.length_map] at this; omega
    have hxn : ∀ x ∈ l, x.n ≤ 300 := fun x hx => by
      have h1 := hl2 (x.id, x.val) (by rw [← hcon]; exact List.mem_map.2 ⟨x, hx, rfl⟩)
      have h3 := (hV x hx).1.1
      simp at h3 h1
      omega
    rw [hn] at hR0 q0
    have HR0 := Lib.hid hR0
    have HV := Lib.hid hV
    have HN := Lib.hid hn
    have HXN := Lib.hid hxn
    have HCON := Lib.hid hcon
    have hgl : g < w.heap.size := lz0
    clear h4 h5 hcon hlen hl1 hl2 hL hR hfin hO hR0 hV hn hxn hfr h2 hrow
    go_enter Try.func12, Try.ntmps12
    go_wp2_with fail
    go_loopw [4, 6, 23] (fun vv xb i wr => ∃ (k : Nat) (v' : Value) (l' : List Ob), k ≤ n ∧ i = .int .i64 k ∧ vv = v' ∧ RsS w wr g v' l' ∧ con l' = con (l.take k) ∧ l'.length = k) (fun _ _ i _ => n - (intOf i).toNat)
    case atStart => exact ⟨0, _, [], by omega, rfl, rfl, ⟨World.ownsRow_nil _ _ _ _, fun o ho => by simp at ho, Below.refl _ _⟩, rfl, rfl⟩
    case round =>
      obtain ⟨k, v', l', hk, rfl, hvv, hLp, hcl, hll⟩ := hrel
      obtain rfl : v' = u4 := hvv.symm
      have HLp := Lib.hid hLp
      have HCL := Lib.hid hcl
      have HLL := Lib.hid hll
      clear hLp hcl hll
      by_cases hlt : k < n
      · obtain ⟨b0, off, rfl, hbl, hk', c0, c1⟩ := ob_at (HR0.out.below HLp.out.2.2 (Nat.le_refl _)) k hlt
        obtain ⟨xo, hxo⟩ : ∃ xo, l[k] = xo := ⟨_, rfl⟩
        have hxm := (HV.out l[k] (List.getElem_mem hk')).1
        have hxn := HXN.out l[k] (List.getElem_mem hk')
        have hcs := con_snoc2 l k hk'
        rw [hxo] at c0 c1 hxm hxn hcs
        have HRX := Lib.hid ((hxm.below HLp.out.2.2 (Nat.le_refl _)).more HLp.out.2.2.size)
        have HCS := Lib.hid hcs
        clear hxm hcs hxo
        obtain ⟨xid, xA, xn, xc, xval⟩ := xo
        dsimp only at c0 c1 hxn HRX HCS
        go_upto_region 8 with fail
        obtain ⟨rw0, hrw⟩ : ∃ r, v'.ownBlock = r := ⟨_, rfl⟩
        have HRW := Lib.hid hrw
        have hb5 : Below wr.heap.size wr (wr.alloc (.cells #[.int .i64 xid, .slice xA xn xc] 48)).drew := below_drew ((Below.refl _ _).alloc (Nat.le_refl _) _)
        have hB5 : Box (wr.alloc (.cells #[.int .i64 xid, .slice xA xn xc] 48)).drew wr.heap.size #[.int .i64 xid, .slice xA xn xc] := Box.drew Box.alloc_
        have HLS := Lib.hid (HLp.out.below hb5)
        have HRX := Lib.hid ((HRX.out.below hb5 (Nat.le_refl _)).more hb5.size)
        have hbxn : ¬ (some wr.heap.size = rw0) := by
          intro h
          have := (HLp.out.1.lt wr.heap.size (by rw [hrw]; exact h.symm)).2; omega
        have HCLN := Lib.hid (fun (W : World) (h : Rd W W.heap.size 1 xA xn (by8 xval)) => clone_any xA xn xc W.heap.size xval W h (by omega))
        obtain ⟨x0, hx0⟩ : ∃ x, (wr.alloc (.cells #[.int .i64 xid, .slice xA xn xc] 48)).drew = x := ⟨_, rfl⟩
        obtain ⟨bx, hbx⟩ : ∃ bx, wr.heap.size = bx := ⟨_, rfl⟩
        rw [hx0] at HLS HRX hB5
        rw [hbx] at hB5 hbxn ⊢
        obtain ⟨qx, zx, lx⟩ := hB5
        have y0 : x0.cell? ⟨bx, 0, none⟩ = some (.int .i64 xid) := qx 0
        have y1 : x0.cell? ⟨bx, 1, none⟩ = some (.slice xA xn xc) := qx 1
        clear hrw hb5 HLp qx zx c0 c1 hbx q0 z0 lz0
        refine rgx_start_x (X := fun b => some b = rw0) (by kernel_rfl) ?_
        rw [hx0]
        refine rgx_t (v := ?_) (some 27) 0 (by kernel_rfl) rfl rfl (.inl ⟨by rfl, fun w' q => ?_⟩) ?_
        rotate_left
        · go_simp <;> with_reducible rfl
        try simp only [Act.put, List.setIfInBounds_toArray, List.set_cons_zero, List.set_cons_succ]
        refine rgx_t (v := ?_) (some 28) 1 (by kernel_rfl) rfl rfl (.inl ⟨by rfl, fun w' q => ?_⟩) ?_
        rotate_left
        · go_simp <;> with_reducible rfl
        try simp only [Act.put, List.setIfInBounds_toArray, List.set_cons_zero, List.set_cons_succ]
        refine rgx_t (v := ?_) (some 29) 2 (by kernel_rfl) rfl rfl (.inl ⟨by rfl, fun w' q => ?_⟩) ?_
        rotate_left
        · go_simp <;> with_reducible rfl
        try simp only [Act.put, List.setIfInBounds_toArray, List.set_cons_zero, List.set_cons_succ]
        refine rgx_t (v := ?_) (some 30) 3 (by kernel_rfl) rfl rfl (.inl ⟨by rfl, fun w' q => ?_⟩) ?_
        rotate_left
        · go_simp <;> with_reducible rfl
        try simp only [Act.put, List.setIfInBounds_toArray, List.set_cons_zero, List.set_cons_succ]
        refine rgx_t (v := ?_) (some 31) 4 (by kernel_rfl) rfl rfl (.inl ⟨by rfl, fun w' q => ?_⟩) ?_
        rotate_left
        · go_simp <;> with_reducible rfl
        try simp only [Act.put, List.setIfInBounds_toArray, List.set_cons_zero, List.set_cons_succ]
        refine rgx_1 5 (by kernel_rfl) ?_
        refine ⟨_, rfl, by rfl, fun K hK => ?_⟩
        go_simp
        refine (HCLN.out _ HRX.out).mono ?_
        rintro e x1 ⟨cv, rfl, hcown, hb⟩
        obtain ⟨cA, cc, hcv, _, hcR⟩ := own_form hcown
        subst hcv
        have hcq : 0 < xn → ∀ b off, cA = some ⟨b, off, none⟩ → b ≠ g ∧ some b ≠ rw0 ∧ ¬ False := by
          intro _ b off e
          have h1 := (hcown.lt b (by rw [e]; rfl)).1
          have h3 := HLS.out.2.2.size
          refine ⟨by omega, fun e2 => ?_, fun hf => hf⟩
          have := (HLS.out.1.lt b (by rw [HRW.out]; exact e2.symm)).2
          omega
        have HCQ := Lib.hid hcq
        have HLS := Lib.hid (HLS.out.below hb)
        have HCR := Lib.hid hcR
        refine hK (fun b => some b = rw0) _ _ (fun b h => .inl h) (Mem.of_below hb) ?_
        clear hcown hb hcR hcq
        clear hK K
        try simp only [Act.put, List.setIfInBounds_toArray, List.set_cons_zero, List.set_cons_succ]
        refine rgx_t (v := ?_) (some 33) 6 (by kernel_rfl) rfl rfl (.inl ⟨by rfl, fun w' q => ?_⟩) ?_
        rotate_left
        · go_simp <;> with_reducible rfl
        try simp only [Act.put, List.setIfInBounds_toArray, List.set_cons_zero, List.set_cons_succ]
        refine rgx_1 7 (by kernel_rfl) ?_
        refine ⟨_, rfl, by rfl, fun K hK => ?_⟩
        go_simp
        have hb := (Below.refl x1.heap.size x1).alloc (Nat.le_refl _) (.cells #[.int .i64 xid, .slice cA xn cc] 48)
        obtain ⟨bl, hbl2⟩ : ∃ bl, x1.heap.size = bl := ⟨_, rfl⟩
        have hRl : Rd (x1.alloc (.cells #[.int .i64 xid, .slice cA xn cc] 48)) (bl + 1) 2 (some ⟨bl, 0, none⟩) 1 [.int .i64 xid, .slice cA xn cc] := by rw [← hbl2]; exact Rd.lit rfl (Nat.lt_succ_self _)
        have HLS := Lib.hid (HLS.out.below hb)
        have HCR := Lib.hid ((HCR.out.below hb (Nat.le_refl _)).more hb.size)
        obtain ⟨x2, hW⟩ : ∃ W, x1.alloc (.cells #[.int .i64 xid, .slice cA xn cc] 48) = W := ⟨_, rfl⟩
        rw [hW] at HLS HCR hRl hb ⊢
        rw [hbl2]
        refine hK (fun b => some b = rw0) _ _ (fun b h => .inl h) (Mem.of_below hb) ?_
        have HRL := Lib.hid hRl
        clear hb hbl2 hRl hW
        clear hK K
        try simp only [Act.put, List.setIfInBounds_toArray, List.set_cons_zero, List.set_cons_succ]
        refine rgx_1 8 (by kernel_rfl) ?_
        refine ⟨_, rfl, by rfl, fun K hK => ?_⟩
        refine wp_appR (.tmp 27) (.tmp 34) 28 w.heap.size 48 _ 2 32 v' l'.length (obCells l') _ ⟨bl, 0, none⟩ 1 1 [.int .i64 xid, .slice cA xn cc] Try.underlying28 objInfo rfl (by decide) rfl rfl rfl HLS.out.1 HRL.out (one_ob [⟨xid, cA, xn, cc, xval⟩]) (by have := HLL.out; omega) (by omega) HLS.out.2.2.size ?_
        intro v2 x3 hown2 hg2 hn2 hb2
        have hls := HLS.out.app (x := ⟨xid, cA, xn, cc, xval⟩) hown2 hg2 hn2 HCR.out (by rw [HRW.out]; exact HCQ.out)
        have HLS := Lib.hid hls
        obtain ⟨A2, c2, hv2, _, _⟩ := own_form hown2
        subst hv2
        refine hK (fun b => some b = rw0) _ _ (fun b h => .inl h) (Mem.of_grown hg2 (fun b e => by rw [← HRW.out]; exact e.symm)) ?_
        clear hown2 hg2 hn2 hb2 hls
        clear hK K
        try simp only [Act.put, List.setIfInBounds_toArray, List.set_cons_zero, List.set_cons_succ]
        refine rgx_t (v := ?_) (some 4) 9 (by kernel_rfl) rfl rfl (.inl ⟨by rfl, fun w' q => ?_⟩) ?_
        rotate_left
        · go_simp <;> with_reducible rfl
        try simp only [Act.put, List.setIfInBounds_toArray, List.set_cons_zero, List.set_cons_succ]
        refine rgx_d (by kernel_rfl) ?_
        go_wp2_with fail
        go_roundw
        case rel => exact ⟨k + 1, _, _, by omega, by go_num, rfl, HLS.out, by rw [HCS.out, ← HCL.out]; simp [con], by have := HLL.out; simp; omega⟩
        case measure => simp [intOf]; omega
      · obtain rfl : k = n := by omega
        have hcl := HCL.out
        rw [List.take_of_length_le (by rw [HN.out]; exact Nat.le_refl _), HCON.out] at hcl
        have HCL2 := Lib.hid hcl
        obtain ⟨A5, c5, hv5, _, hR5⟩ := own_form HLp.out.1
        subst hv5
        have HR5 := Lib.hid hR5
        have q6 : ∀ i, wr.cell? ⟨g, i, none⟩ = w.cell? ⟨g, i, none⟩ := fun i => HLp.out.2.2.cell (p := ⟨g, i, none⟩) hgl
        have y0 : wr.cell? ⟨g, 0, none⟩ = some (.int .i64 2) := by rw [q6, q0]; rfl
        have y1 : wr.cell? ⟨g, 1, none⟩ = some (.int .i64 S.lv) := by rw [q6, q0]; rfl
        clear hcl hR5 q6 q0 z0
        go_upto_region 10 with fail
        go_quiet (fail)
        go_wp2
        go_ret3
        exact (HFN.out _ _).2 ⟨A5, _, c5, l', rfl, ObRd.below ⟨HR5.out, fun x hx => (HLp.out.2.1 x hx).1⟩ (below_drewN (Below.refl _ _) _), rfl, HCL2.out, below_drewN HLp.out.2.2 _⟩
  · have hL : resL S = 0 := by rw [resL, if_neg h2]
    have hR : resO S = [] := by rw [resO, if_neg h2]
    obtain ⟨st, hst⟩ : ∃ st, S.st = st := ⟨_, rfl⟩
    have hfin : ∀ w', Below w.heap.size w w' → ResOk S w (.returned (.tuple #[.int .i64 st, .int .i64 0, .slice none 0 0])) w' := fun w' hb => ⟨none, 0, 0, [], by rw [hL, hst], ⟨Rd.nil_, fun x hx => by simp at hx⟩, rfl, by rw [hR]; rfl, hb⟩
    have HFN := Lib.hid hfin
    rw [hst] at q0 h2
    have hd : (st != 2) = true := by simpa using h2
    clear h4 h5 hlen hL hR hfin hO hV hfr h2 hrow hst
    go_enter Try.func12, Try.ntmps12
    go_wp2
    go_ret3
    exact HFN.out _ (Below.refl _ _)
end Go.Proofs.Ytpbmolijoadonaa

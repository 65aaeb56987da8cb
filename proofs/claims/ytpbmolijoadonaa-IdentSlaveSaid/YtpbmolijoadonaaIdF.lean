/- Layer 22: contract of the program's Feed. -/
import Derived.Test.YtpbmolijoadonaaIdN
import Derived.Test.YtpbmolijoadonaaIdO
import Derived.Test.YtpbmolijoadonaaRegG
import Derived.Deep.DeepCutAuto
set_option linter.unusedVariables false
set_option linter.unusedSimpArgs false
namespace Go.Proofs.Ytpbmolijoadonaa
open Go.RowKit

abbrev ocArr (o : Oc) : Array Value := #[.int .i64 o.V, .int .i64 o.F, .int .i64 o.E, .slice o.dA o.dn o.dc, .int .i64 o.C, .int .i64 o.L, .bool o.M, .int .i64 o.N, .slice o.oA o.os.length o.oc]
abbrev rpArr (o : Oc) : Array Value := rpC o.F o.E o.C o.L o.N o.M o.dA o.oA o.dn o.dc o.os.length o.oc
/-- What is known of an outcome that is fed: it does not lie in the identification's blocks. -/
def OcFed (w : World) (g : Nat) (row : Option Nat) (o : Oc) : Prop := Rd w w.heap.size 2 o.oA o.os.length (obCells o.os) ∧ (0 < o.os.length → ∀ b off, o.oA = some ⟨b, off, none⟩ → b ≠ g ∧ some b ≠ row) ∧ o.os.length ≤ 40 ∧ Vals w g row (fun _ => False) o.os ∧ ∀ x ∈ o.os, x.n ≤ 300
theorem OcFed.below {w w' : World} {g : Nat} {row : Option Nat} {o : Oc} (h : OcFed w g row o) (hb : Below w.heap.size w w') : OcFed w' g row o :=
  ⟨(h.1.below hb (Nat.le_refl _)).more hb.size, h.2.1, h.2.2.1, h.2.2.2.1.below hb, h.2.2.2.2⟩
/-- The state within Feed's loop: the cell of the objects holds vb, the row is v. -/
def LpS (w0 w : World) (g : Nat) (F : Nat → Prop) (row : Option Nat) (br : Nat) (rp : Array Value) (c1 c3 c4 : Int) (vb v : Value) (l : List Ob) : Prop :=
  Box w g #[.int .i64 0, .int .i64 c1, vb, .int .i64 c3, .int .i64 c4] ∧ w.ownsRow (g + 1) 48 2 v l.length (obCells l) ∧ (∀ b, v.ownBlock = some b → ¬ F b) ∧ Vals w g v.ownBlock F l ∧ Box w br rp ∧ some br ≠ v.ownBlock ∧ (v.ownBlock = row ∨ ∃ b, v.ownBlock = some b ∧ w0.heap.size ≤ b) ∧ Chg w0 w g row ∧ br ≠ g
theorem LpS.below {w0 w w' : World} {g br : Nat} {F : Nat → Prop} {row : Option Nat} {rp : Array Value} {c1 c3 c4 : Int} {vb v : Value} {l : List Ob} (h : LpS w0 w g F row br rp c1 c3 c4 vb v l) (hb : Below w.heap.size w w') : LpS w0 w' g F row br rp c1 c3 c4 vb v l := by
  obtain ⟨h1, h2, h3, h4, h5, h6, h7, h8, h9⟩ := h
  exact ⟨h1.below hb, own_below h2 hb (Nat.le_refl _), h3, h4.below hb, h5.below hb, h6, h7, h8.below hb, h9⟩
/-- Behind the append. -/
theorem LpS.app {w0 w w' : World} {g br : Nat} {F : Nat → Prop} {row : Option Nat} {rp : Array Value} {c1 c3 c4 : Int} {vb v v' : Value} {l : List Ob} {x : Ob} (h : LpS w0 w g F row br rp c1 c3 c4 vb v l) (hF : ∀ b, F b → b < w0.heap.size)
    (hown : w'.ownsRow (g + 1) 48 2 v' (l.length + 1) (obCells l ++ [.int .i64 x.id, .slice x.A x.n x.c])) (hg : w.grownBy w' v.ownBlock) (hn : OwnNext w v v') (hx : Rd w w.heap.size 1 x.A x.n (by8 x.val)) (hxb : 0 < x.n → ∀ b off, x.A = some ⟨b, off, none⟩ → b ≠ g ∧ some b ≠ v.ownBlock ∧ ¬ F b) :
    LpS w0 w' g F row br rp c1 c3 c4 vb v' (l ++ [x]) := by
  obtain ⟨h1, h2, h3, h4, h5, h6, h7, h8, h9⟩ := h
  have hw0 := h8.2.2.2.1
  have hgne : some g ≠ v.ownBlock := fun e => by have := (h2.lt g e.symm).1; omega
  have hnew : v'.ownBlock = v.ownBlock ∨ ∃ b, v'.ownBlock = some b ∧ w.heap.size ≤ b := hn
  have hvals : Vals w g v.ownBlock F (l ++ [x]) := by
    refine h4.append fun o ho => ?_
    obtain rfl : o = x := by simpa using ho
    exact ⟨hx, hxb⟩
  refine ⟨h1.row hg hgne, ?_, fun b hb hf => ?_, ?_, h5.row hg h6, fun e => ?_, ?_, h8.grown hg ?_, h9⟩
  · rw [obCells_append, List.length_append]; exact hown
  · rcases hnew with e | ⟨c, e, hc⟩
    · exact h3 b (by rw [← e]; exact hb) hf
    · rw [e] at hb; injection hb with hb; have := hF b hf; omega
  · have k1 : Vals w g v'.ownBlock F (l ++ [x]) := hvals.turn hnew (fun b hf => .inl hf)
    have k2 : Vals w' g v.ownBlock F (l ++ [x]) := hvals.other hg.size (fun b hlt _ hr _ => hg.block b hlt hr)
    exact fun o ho => ⟨(k2 o ho).1, (k1 o ho).2⟩
  · rcases hnew with e2 | ⟨c, e2, hc⟩
    · exact h6 (by rw [← e2]; exact e)
    · rw [e2] at e; injection e with e; have := h5.2.2; omega
  · rcases hnew with e2 | ⟨c, e2, hc⟩
    · rw [e2]; exact h7
    · exact .inr ⟨c, e2, by omega⟩
  · rcases h7 with e | ⟨c, e, hc⟩
    · exact .inr (.inl e)
    · exact .inr (.inr ⟨c, e, hc⟩)
/-- Behind the store. -/
theorem LpS.store {w0 w : World} {g br : Nat} {F : Nat → Prop} {row : Option Nat} {rp : Array Value} {c1 c3 c4 : Int} {vb v : Value} {l : List Ob} (h : LpS w0 w g F row br rp c1 c3 c4 vb v l) : LpS w0 (w.setCell ⟨g, 2, none⟩ v) g F row br rp c1 c3 c4 v v l := by
  obtain ⟨h1, h2, h3, h4, h5, h6, h7, h8, h9⟩ := h
  have hg := one_set (one_refl w g) 2 v
  exact ⟨h1.set (k := 2) (v := v) (by simp) rfl, ownsRow_setCell_below h2 (show g < g + 1 by omega) _, h3, h4.other hg.size (fun b hlt hne _ _ => hg.block b hlt (by intro e; injection e with e; exact hne e)), h5.grown hg h9, h6, h7, h8.grown hg (.inl rfl), h9⟩
def FedOk (w : World) (g : Nat) (F : Nat → Prop) (row : Option Nat) (S : Ist) (w' : World) : Prop := ∃ row', IdAt w' g F row' S ∧ (row' = row ∨ ∃ b, row' = some b ∧ w.heap.size ≤ b) ∧ Chg w w' g row
/-- Behind the loop: the state and the next object are stored. -/
theorem LpS.close {w0 w : World} {g br : Nat} {F : Nat → Prop} {row : Option Nat} {rp : Array Value} {c1 c3 c4 : Int} {v : Value} {l : List Ob} (h : LpS w0 w g F row br rp c1 c3 c4 v v l) (st N : Int) (cnt : Nat) (os : List (Int × List Int)) (hc : con l = os) (h4 : c4 = (cnt : Nat)) : FedOk w0 g F row ⟨st, c1, N, cnt, os⟩ ((w.setCell ⟨g, 0, none⟩ (.int .i64 st)).setCell ⟨g, 3, none⟩ (.int .i64 N)) := by
  obtain ⟨h1, h2, h3, h4', h5, h6, h7, h8, h9⟩ := h
  have hg := one_set (one_set (one_refl w g) 0 (.int .i64 st)) 3 (.int .i64 N)
  refine ⟨v.ownBlock, ⟨c1, N, c4, v, l, rfl, (h1.set (k := 0) (v := .int .i64 st) (cs' := #[.int .i64 st, .int .i64 c1, v, .int .i64 c3, .int .i64 c4]) (by simp) rfl).set (k := 3) (v := .int .i64 N) (by simp) rfl, ownsRow_setCell_below (ownsRow_setCell_below h2 (show g < g + 1 by omega) _) (show g < g + 1 by omega) _, h3, h4'.other hg.size (fun b hlt hne _ _ => hg.block b hlt (by intro e; injection e with e; exact hne e)), fun _ => ⟨rfl, hc⟩, fun _ => ⟨rfl, h4⟩⟩, h7, h8.grown hg (.inl rfl)⟩
theorem LpS.close0 {w0 w : World} {g br : Nat} {F : Nat → Prop} {row : Option Nat} {rp : Array Value} {c1 c3 c4 : Int} {v : Value} {l : List Ob} (h : LpS w0 w g F row br rp c1 c3 c4 v v l) (N : Int) (cnt : Nat) (os : List (Int × List Int)) (hc : con l = os) (h4 : c4 = (cnt : Nat)) : FedOk w0 g F row ⟨0, c1, N, cnt, os⟩ (w.setCell ⟨g, 3, none⟩ (.int .i64 N)) := by
  obtain ⟨h1, h2, h3, h4', h5, h6, h7, h8, h9⟩ := h
  have hg := one_set (one_refl w g) 3 (.int .i64 N)
  refine ⟨v.ownBlock, ⟨c1, N, c4, v, l, rfl, h1.set (k := 3) (v := .int .i64 N) (by simp) rfl, ownsRow_setCell_below h2 (show g < g + 1 by omega) _, h3, h4'.other hg.size (fun b hlt hne _ _ => hg.block b hlt (by intro e; injection e with e; exact hne e)), fun _ => ⟨rfl, hc⟩, fun _ => ⟨rfl, h4⟩⟩, h7, h8.grown hg (.inl rfl)⟩
theorem con_snoc (l : List Ob) (k : Nat) (hk : k < l.length) : con (l.take (k + 1)) = con (l.take k) ++ [(l[k].id, l[k].val)] := by
  rw [List.take_succ_eq_append_getElem hk, con, List.map_append]; rfl
theorem con_length (l : List Ob) : (con l).length = l.length := by simp [con]

set_option maxRecDepth 100000 in
set_option maxHeartbeats 8000000 in
theorem feed_any (S : Ist) (g : Nat) (F : Nat → Prop) (row : Option Nat) (o : Oc) (w : World) (hS : IdAt w g F row S) (h0 : S.st = 0) (hask : 0 ≤ S.ask ∧ S.ask ≤ 9223372036854775807) (hcnt : S.cnt < 32) (hlen : S.os.length ≤ 40 * S.cnt) (ho : OcFed w g row o) (hF : ∀ b, F b → b < w.heap.size) :
    Calls Try.prog 15 #[iptr g, .agg (ocArr o)] w fun e w' => e = .returned (.int .i64 0) ∧ FedOk w g F row (stepI S o) w' := by
  obtain ⟨lv, nx, rp, v, l, hrow, hB, hO, hfr, hV, h4, h5⟩ := hS
  obtain ⟨rfl, hcon⟩ := h4 (.inl h0)
  obtain ⟨rfl, rfl⟩ := h5 h0
  rw [h0] at hB
  obtain ⟨st, lv, ask, cnt, sos⟩ := S
  dsimp only at h0 hask hcnt hlen hB hcon
  subst h0
  obtain ⟨V, oF, E, dA, dn, dc, C, L, M, N, oA, oc, dxs, oos⟩ := o
  obtain ⟨n, hn⟩ : ∃ n, oos.length = n := ⟨_, rfl⟩
  obtain ⟨ho1, ho1b, ho2, ho3, ho4⟩ := ho
  dsimp only at ho1 ho1b ho2 ho3 ho4
  unfold ocArr
  dsimp only
  rw [hn] at ho1 ho1b ho2 ⊢
  have hgl := hB.2.2
  have hbA : Below w.heap.size w ((w.alloc (.cells #[.int .i64 V, .int .i64 oF, .int .i64 E, .slice dA dn dc, .int .i64 C, .int .i64 L, .bool M, .int .i64 N, .slice oA n oc] 44)).alloc (.cells (rpC oF E C L N M dA oA dn dc n oc) 42)) := ((Below.refl _ _).alloc (Nat.le_refl _) _).alloc (by simp) _
  have HBo := Lib.hid ((Box.alloc_ (w := w) (cs := #[.int .i64 V, .int .i64 oF, .int .i64 E, .slice dA dn dc, .int .i64 C, .int .i64 L, .bool M, .int .i64 N, .slice oA n oc]) (e := 44)).alloc' (.cells (rpC oF E C L N M dA oA dn dc n oc) 42))
  have HBr := Lib.hid (show Box ((w.alloc (.cells #[.int .i64 V, .int .i64 oF, .int .i64 E, .slice dA dn dc, .int .i64 C, .int .i64 L, .bool M, .int .i64 N, .slice oA n oc] 44)).alloc (.cells (rpC oF E C L N M dA oA dn dc n oc) 42)) (w.heap.size + 1) (rpC oF E C L N M dA oA dn dc n oc) by have := Box.alloc_ (w := w.alloc (.cells #[.int .i64 V, .int .i64 oF, .int .i64 E, .slice dA dn dc, .int .i64 C, .int .i64 L, .bool M, .int .i64 N, .slice oA n oc] 44)) (cs := rpC oF E C L N M dA oA dn dc n oc) (e := 42); simpa using this)
  have HB0 := Lib.hid hB
  have HO := Lib.hid hO
  have HV := Lib.hid hV
  have HR := Lib.hid ho1
  have HX := Lib.hid ho3
  have HX4 := Lib.hid ho4
  have HRb := Lib.hid ho1b
  have HN := Lib.hid hn
  have HROW := Lib.hid hrow
  have HC := Lib.hid hcon
  have HFR := Lib.hid hfr
  have HFF := Lib.hid hF
  have hll : l.length = sos.length := by rw [← hcon, con_length]
  obtain ⟨l0, hl0⟩ : ∃ l0, l.length = l0 := ⟨_, rfl⟩
  have hl0b : l0 ≤ 1280 := by omega
  have HL0 := Lib.hid hl0
  obtain ⟨ha1, ha2⟩ := hask
  -- the identification with another state
  have fin : ∀ (st' : Int) (w' : World), st' = 5 ∨ st' = 4 → Below w.heap.size w w' → FedOk w g F row ⟨st', lv, ask, cnt, sos⟩ (w'.setCell ⟨g, 0, none⟩ (.int .i64 st')) := by
    intro st' w' hst hb
    refine ⟨row, ⟨lv, ask, cnt, v, l, hrow, (hB.below hb).set (k := 0) (v := .int .i64 st') (by simp) rfl, ownsRow_setCell_below (own_below hO hb (Nat.le_refl _)) (show g < g + 1 by omega) _, hfr, (hV.below hb).other (by simp [World.setCell]) (fun b hlt hne _ _ => Below.heap_setCell w' ⟨g, 0, none⟩ _ b (by intro e; exact hne e)), fun _ => ⟨rfl, hcon⟩, fun h => ?_⟩, .inl rfl, ((Chg.refl w g row).below hb).grown (one_set (one_refl w' g) 0 _) (.inl rfl)⟩
    have h : st' = 0 := h
    omega
  have FIN := Lib.hid fin
  have HB1 := Lib.hid (HB0.out.alloc' (.cells #[.int .i64 V, .int .i64 oF, .int .i64 E, .slice dA dn dc, .int .i64 C, .int .i64 L, .bool M, .int .i64 N, .slice oA n oc] 44))
  clear h4 h5 hO hV ho1 ho1b ho4 ho3 hn hrow hcon hfr hF hll hl0 hlen fin
  obtain ⟨q1, z1, lz1⟩ := HB1.out
  go_enter Try.func15, Try.ntmps15
  go_upto_region 6 with fail
  obtain ⟨W1, hW1⟩ : ∃ W1, (w.alloc (.cells #[.int .i64 V, .int .i64 oF, .int .i64 E, .slice dA dn dc, .int .i64 C, .int .i64 L, .bool M, .int .i64 N, .slice oA n oc] 44)).alloc (.cells (rpC oF E C L N M dA oA dn dc n oc) 42) = W1 := ⟨_, rfl⟩
  rw [hW1] at HBo HBr hbA ⊢
  have hws : w.heap.size + 1 < W1.heap.size := HBr.out.2.2
  have HB2 := Lib.hid (HB0.out.below hbA)
  obtain ⟨br, hbr⟩ : ∃ br, w.heap.size + 1 = br := ⟨_, rfl⟩
  have hbrw : w.heap.size ≤ br := by omega
  rw [hbr] at HBr hws ⊢
  clear hW1 hbr q1 z1 lz1 HB1
  obtain ⟨q0, z0, lz0⟩ := HB2.out
  obtain ⟨qo, zo, lzo⟩ := HBo.out
  obtain ⟨qr, zr, lzr⟩ := HBr.out
  by_cases hA : V = 2 ∧ E = 1 ∧ cnt = 0
  · have hst : stepI ⟨0, lv, ask, cnt, sos⟩ ⟨V, oF, E, dA, dn, dc, C, L, M, N, oA, oc, dxs, oos⟩ = ⟨5, lv, ask, cnt, sos⟩ := by rw [stepI, if_pos hA]
    have HST := Lib.hid hst
    obtain ⟨rfl, rfl, rfl⟩ := hA
    clear hst
    go_wp2
    go_ret
    exact ⟨rfl, by rw [HST.out]; exact FIN.out 5 _ (.inl rfl) hbA⟩
  · have HNA := Lib.hid hA
    obtain ⟨gd, hgd⟩ : ∃ gd, ordB M N (ids oos) ask = gd := ⟨_, rfl⟩
    have hstep : ∀ T, stepI ⟨0, lv, ask, cnt, sos⟩ ⟨V, oF, E, dA, dn, dc, C, L, M, N, oA, oc, dxs, oos⟩ = T ↔ (if goodB ⟨V, oF, E, dA, dn, dc, C, L, M, N, oA, oc, dxs, oos⟩ ask = false ∨ (0 < cnt ∧ L ≠ lv) then (⟨4, lv, ask, cnt, sos⟩ : Ist) else ⟨if M = false then 2 else if cnt + 1 = 32 then 4 else 0, L, N, cnt + 1, sos ++ con oos⟩) = T := fun T => by rw [stepI, if_neg hA]
    have hgb : goodB ⟨V, oF, E, dA, dn, dc, C, L, M, N, oA, oc, dxs, oos⟩ ask = (decide (V = 1 ∧ oF = 43) && gd) := by rw [← hgd]; rfl
    have HST := Lib.hid hstep
    have HGB := Lib.hid hgb
    have HOR := Lib.hid (fun (W : World) (h : Below w.heap.size w W) => ordered_any oF E C L N ask M dA oA dn dc n oc w.heap.size oos W (HR.out.below h (Nat.le_refl _)) (by omega) ⟨ha1, ha2⟩ gd hgd)
    clear hstep hgb hgd hA
    go_cut [19] (fun v x => v = .bool false ∧ x = W1)
    case first =>
      by_cases v2 : V = 2
      · have d1 : (V == 2) = true := by simpa using v2
        by_cases e1 : E = 1
        · have d2 : (E == 1) = true := by simpa using e1
          have d3 : (((cnt : Nat) : Int) == 0) = false := by have := HNA.out; simp; omega
          clear v2 e1
          go_wp2_with fail
          go_meet
          case rel => exact ⟨rfl, rfl⟩
        · have d2 : (E == 1) = false := by simpa using e1
          clear v2 e1
          go_wp2_with fail
          go_meet
          case rel => exact ⟨rfl, rfl⟩
      · have d1 : (V == 2) = false := by simpa using v2
        clear v2
        go_wp2_with fail
        go_meet
        case rel => exact ⟨rfl, rfl⟩
    case rest =>
      obtain ⟨rfl, hwc⟩ := hcut
      obtain rfl : W1 = wc := hwc.symm
      go_upto_region 9 with fail
      obtain ⟨gg, hgg⟩ : ∃ gg, (decide (V = 1 ∧ oF = 43) && gd) = gg := ⟨_, rfl⟩
      go_cut [38] (fun v x => v = .bool (!gg) ∧ Below W1.heap.size W1 x)
      case first =>
        by_cases v1 : V = 1
        · have d1 : (V != 1) = false := by simpa using v1
          by_cases f1 : oF = 43
          · have d2 : (oF != 43) = false := by simpa using f1
            obtain rfl : gd = gg := by rw [← hgg]; simp [v1, f1]
            have hbc0 : Below W1.heap.size W1 W1.drew := below_drew (Below.refl _ _)
            have HB3 := Lib.hid HB2.out
            clear v1 f1 hgg q0 z0 lz0 qo zo lzo qr zr lzr
            have hS : (∀ i, W1.drew.cell? ⟨w.heap.size, i, none⟩ = (#[.int .i64 V, .int .i64 oF, .int .i64 E, .slice dA dn dc, .int .i64 C, .int .i64 L, .bool M, .int .i64 N, .slice oA n oc] : Array Value)[i]?) ∧ (∀ i, W1.drew.cell? ⟨br, i, none⟩ = (#[.int .i64 oF, .int .i64 E, .slice dA dn dc, .int .i64 C, .int .i64 L, .bool M, .int .i64 N, .slice oA n oc] : Array Value)[i]?) ∧ (∀ i, W1.drew.cell? ⟨g, i, none⟩ = (#[.int .i64 0, .int .i64 lv, v, .int .i64 ask, .int .i64 cnt] : Array Value)[i]?) := ⟨HBo.out.1, HBr.out.1, HB2.out.1⟩
            refine rgs_start (fun w' => (∀ i, w'.cell? ⟨w.heap.size, i, none⟩ = (#[.int .i64 V, .int .i64 oF, .int .i64 E, .slice dA dn dc, .int .i64 C, .int .i64 L, .bool M, .int .i64 N, .slice oA n oc] : Array Value)[i]?) ∧ (∀ i, w'.cell? ⟨br, i, none⟩ = (#[.int .i64 oF, .int .i64 E, .slice dA dn dc, .int .i64 C, .int .i64 L, .bool M, .int .i64 N, .slice oA n oc] : Array Value)[i]?) ∧ (∀ i, w'.cell? ⟨g, i, none⟩ = (#[.int .i64 0, .int .i64 lv, v, .int .i64 ask, .int .i64 cnt] : Array Value)[i]?)) (by kernel_rfl) ?_
            refine rgs_t (v := ?_) (some 39) 0 (by kernel_rfl) rfl rfl (by assumption) (.inl ⟨by rfl, fun w' hw => ?_⟩) ?_
            rotate_left
            · obtain ⟨q1, q2, q3⟩ := hw; go_simp <;> with_reducible rfl
            try simp only [Act.put, List.setIfInBounds_toArray, List.set_cons_zero, List.set_cons_succ]
            refine rgs_t (v := ?_) (some 40) 1 (by kernel_rfl) rfl rfl (by assumption) (.inl ⟨by rfl, fun w' hw => ?_⟩) ?_
            rotate_left
            · obtain ⟨q1, q2, q3⟩ := hw; go_simp <;> with_reducible rfl
            try simp only [Act.put, List.setIfInBounds_toArray, List.set_cons_zero, List.set_cons_succ]
            refine rgs_t (v := ?_) (some 41) 2 (by kernel_rfl) rfl rfl (by assumption) (.inl ⟨by rfl, fun w' hw => ?_⟩) ?_
            rotate_left
            · obtain ⟨q1, q2, q3⟩ := hw; go_simp <;> with_reducible rfl
            try simp only [Act.put, List.setIfInBounds_toArray, List.set_cons_zero, List.set_cons_succ]
            refine rgs_t (v := ?_) (some 42) 3 (by kernel_rfl) rfl rfl (by assumption) (.inl ⟨by rfl, fun w' hw => ?_⟩) ?_
            rotate_left
            · obtain ⟨q1, q2, q3⟩ := hw; go_simp <;> with_reducible rfl
            try simp only [Act.put, List.setIfInBounds_toArray, List.set_cons_zero, List.set_cons_succ]
            refine rgs_t (v := ?_) (some 43) 4 (by kernel_rfl) rfl rfl (by assumption) (.inl ⟨by rfl, fun w' hw => ?_⟩) ?_
            rotate_left
            · obtain ⟨q1, q2, q3⟩ := hw; go_simp <;> with_reducible rfl
            try simp only [Act.put, List.setIfInBounds_toArray, List.set_cons_zero, List.set_cons_succ]
            refine rgs_t (v := ?_) (some 44) 5 (by kernel_rfl) rfl rfl (by assumption) (.inl ⟨by rfl, fun w' hw => ?_⟩) ?_
            rotate_left
            · obtain ⟨q1, q2, q3⟩ := hw; go_simp <;> with_reducible rfl
            try simp only [Act.put, List.setIfInBounds_toArray, List.set_cons_zero, List.set_cons_succ]
            refine rgs_t (v := ?_) (some 45) 6 (by kernel_rfl) rfl rfl (by assumption) (.inl ⟨by rfl, fun w' hw => ?_⟩) ?_
            rotate_left
            · obtain ⟨q1, q2, q3⟩ := hw; go_simp <;> with_reducible rfl
            try simp only [Act.put, List.setIfInBounds_toArray, List.set_cons_zero, List.set_cons_succ]
            refine rgs_t (v := ?_) (some 46) 7 (by kernel_rfl) rfl rfl (by assumption) (.inl ⟨by rfl, fun w' hw => ?_⟩) ?_
            rotate_left
            · obtain ⟨q1, q2, q3⟩ := hw; go_simp <;> with_reducible rfl
            try simp only [Act.put, List.setIfInBounds_toArray, List.set_cons_zero, List.set_cons_succ]
            refine rgs_t (v := ?_) (some 47) 8 (by kernel_rfl) rfl rfl (by assumption) (.inl ⟨by rfl, fun w' hw => ?_⟩) ?_
            rotate_left
            · obtain ⟨q1, q2, q3⟩ := hw; go_simp <;> with_reducible rfl
            try simp only [Act.put, List.setIfInBounds_toArray, List.set_cons_zero, List.set_cons_succ]
            refine rgs_t (v := ?_) (some 48) 9 (by kernel_rfl) rfl rfl (by assumption) (.inl ⟨by rfl, fun w' hw => ?_⟩) ?_
            rotate_left
            · obtain ⟨q1, q2, q3⟩ := hw; go_simp <;> with_reducible rfl
            try simp only [Act.put, List.setIfInBounds_toArray, List.set_cons_zero, List.set_cons_succ]
            refine rgs_t (v := ?_) (some 49) 10 (by kernel_rfl) rfl rfl (by assumption) (.inl ⟨by rfl, fun w' hw => ?_⟩) ?_
            rotate_left
            · obtain ⟨q1, q2, q3⟩ := hw; go_simp <;> with_reducible rfl
            try simp only [Act.put, List.setIfInBounds_toArray, List.set_cons_zero, List.set_cons_succ]
            refine rgs_t (v := ?_) (some 50) 11 (by kernel_rfl) rfl rfl (by assumption) (.inl ⟨by rfl, fun w' hw => ?_⟩) ?_
            rotate_left
            · obtain ⟨q1, q2, q3⟩ := hw; go_simp <;> with_reducible rfl
            try simp only [Act.put, List.setIfInBounds_toArray, List.set_cons_zero, List.set_cons_succ]
            refine rgs_t (v := ?_) (some 51) 12 (by kernel_rfl) rfl rfl (by assumption) (.inl ⟨by rfl, fun w' hw => ?_⟩) ?_
            rotate_left
            · obtain ⟨q1, q2, q3⟩ := hw; go_simp <;> with_reducible rfl
            try simp only [Act.put, List.setIfInBounds_toArray, List.set_cons_zero, List.set_cons_succ]
            refine rgs_t (v := ?_) (some 52) 13 (by kernel_rfl) rfl rfl (by assumption) (.inl ⟨by rfl, fun w' hw => ?_⟩) ?_
            rotate_left
            · obtain ⟨q1, q2, q3⟩ := hw; go_simp <;> with_reducible rfl
            try simp only [Act.put, List.setIfInBounds_toArray, List.set_cons_zero, List.set_cons_succ]
            refine rgs_c 14 (by kernel_rfl) rfl (by rfl) (fun K hK => ?_)
            go_simp
            refine (HOR.out _ (below_drew hbA)).mono ?_
            rintro e x1 ⟨rfl, hb1⟩
            have hbc1 : Below W1.heap.size W1 x1 := hbc0.trans hb1
            have hS1 : (∀ i, x1.cell? ⟨w.heap.size, i, none⟩ = (#[.int .i64 V, .int .i64 oF, .int .i64 E, .slice dA dn dc, .int .i64 C, .int .i64 L, .bool M, .int .i64 N, .slice oA n oc] : Array Value)[i]?) ∧ (∀ i, x1.cell? ⟨br, i, none⟩ = (#[.int .i64 oF, .int .i64 E, .slice dA dn dc, .int .i64 C, .int .i64 L, .bool M, .int .i64 N, .slice oA n oc] : Array Value)[i]?) ∧ (∀ i, x1.cell? ⟨g, i, none⟩ = (#[.int .i64 0, .int .i64 lv, v, .int .i64 ask, .int .i64 cnt] : Array Value)[i]?) := ⟨(HBo.out.below hbc1).1, (HBr.out.below hbc1).1, (HB2.out.below hbc1).1⟩
            refine hK _ _ hS1 ?_
            clear hK K
            try simp only [Act.put, List.setIfInBounds_toArray, List.set_cons_zero, List.set_cons_succ]
            refine rgs_t (v := ?_) (some 54) 15 (by kernel_rfl) rfl rfl (by assumption) (.inl ⟨by rfl, fun w' hw => ?_⟩) ?_
            rotate_left
            · obtain ⟨q1, q2, q3⟩ := hw; go_simp <;> with_reducible rfl
            try simp only [Act.put, List.setIfInBounds_toArray, List.set_cons_zero, List.set_cons_succ]
            refine rgs_t (v := ?_) (some 55) 16 (by kernel_rfl) rfl rfl (by assumption) (.inl ⟨by rfl, fun w' hw => ?_⟩) ?_
            rotate_left
            · obtain ⟨q1, q2, q3⟩ := hw; go_simp <;> with_reducible rfl
            try simp only [Act.put, List.setIfInBounds_toArray, List.set_cons_zero, List.set_cons_succ]
            refine rgs_t (v := ?_) (some 38) 17 (by kernel_rfl) rfl rfl (by assumption) (.inl ⟨by rfl, fun w' hw => ?_⟩) ?_
            rotate_left
            · obtain ⟨q1, q2, q3⟩ := hw; go_simp <;> with_reducible rfl
            try simp only [Act.put, List.setIfInBounds_toArray, List.set_cons_zero, List.set_cons_succ]
            refine rgs_d (by kernel_rfl) ?_
            go_wp2_with fail
            go_meet
            case rel => exact ⟨by first | rfl | simp, hbc1⟩
          · have d2 : (oF != 43) = true := by simpa using f1
            obtain rfl : gg = false := by rw [← hgg]; simp [f1]
            clear v1 f1 hgg
            go_quiet (fail)
            go_wp2_with fail
            go_meet
            case rel => exact ⟨rfl, below_drewN (Below.refl _ _) _⟩
        · have d1 : (V != 1) = true := by simpa using v1
          obtain rfl : gg = false := by rw [← hgg]; simp [v1]
          clear v1 hgg
          go_quiet (fail)
          go_wp2_with fail
          go_meet
          case rel => exact ⟨rfl, below_drewN (Below.refl _ _) _⟩
      case rest =>
        obtain ⟨rfl, hbc⟩ := hcut
        have HGG := Lib.hid (HGB.out.trans hgg)
        have hbB := ext_trans hbA hbc
        have HB4 := Lib.hid (HB2.out.below hbc)
        have HBr4 := Lib.hid (HBr.out.below hbc)
        clear hgg q0 z0 lz0 qo zo lzo qr zr lzr HB2 HBr HBo HOR
        obtain ⟨q0, z0, lz0⟩ := HB4.out
        obtain ⟨qr, zr, lzr⟩ := HBr4.out
        cases gg
        · go_wp2
          go_ret
          exact ⟨rfl, by rw [(HST.out _).2 (if_pos (.inl HGG.out))]; exact FIN.out 4 _ (.inr rfl) hbB⟩
        · go_upto_region 10 with fail
          obtain ⟨bb, hbb⟩ : ∃ bb, decide (0 < cnt ∧ L ≠ lv) = bb := ⟨_, rfl⟩
          go_cut [38] (fun v x => v = .bool bb ∧ Below wc.heap.size wc x)
          case first =>
            by_cases hc0 : 0 < cnt
            · have d1 : decide ((0 : Int) < (cnt : Int)) = true := by simp; omega
              have d2 : decide (0 < cnt) = true := by simpa using hc0
              by_cases hL : L = lv
              · obtain rfl : bb = false := by rw [← hbb]; simp [hL]
                have d3 : (L != lv) = false := by simpa using hL
                clear hL hc0 hbb
                go_quiet (fail)
                go_wp2_with fail
                go_meet
                case rel => exact ⟨rfl, below_drewN (Below.refl _ _) _⟩
              · obtain rfl : bb = true := by rw [← hbb]; simp [hL, hc0]
                have d3 : (L != lv) = true := by simpa using hL
                clear hL hc0 hbb
                go_quiet (fail)
                go_wp2_with fail
                go_meet
                case rel => exact ⟨rfl, below_drewN (Below.refl _ _) _⟩
            · have d1 : decide ((0 : Int) < (cnt : Int)) = false := by simp; omega
              have d2 : decide (0 < cnt) = false := by simpa using hc0
              obtain rfl : bb = false := by rw [← hbb]; simp [hc0]
              clear hc0 hbb
              go_quiet (fail)
              go_wp2_with fail
              go_meet
              case rel => exact ⟨rfl, below_drewN (Below.refl _ _) _⟩
          case rest =>
            obtain ⟨rfl, hbd⟩ := hcut
            have HB5 := Lib.hid (HB4.out.below hbd)
            have HBr5 := Lib.hid (HBr4.out.below hbd)
            have hbD := ext_trans hbB hbd
            clear q0 z0 lz0 qr zr lzr HB4 HBr4 hbB hbc hbd
            obtain ⟨q0, z0, lz0⟩ := HB5.out
            obtain ⟨qr, zr, lzr⟩ := HBr5.out
            cases bb
            · have HSN := Lib.hid ((HST.out _).2 (if_neg (by rintro (h | h); (· rw [HGG.out] at h; cases h); (· simp [h] at hbb))))
              have hBa := HB5.out.set (k := 1) (v := .int .i64 L) (cs' := #[.int .i64 0, .int .i64 L, v, .int .i64 ask, .int .i64 cnt]) (by simp) rfl
              have hBb := hBa.set (k := 4) (v := .int .i64 ((cnt : Int) + 1)) (cs' := #[.int .i64 0, .int .i64 L, v, .int .i64 ask, .int .i64 ((cnt : Int) + 1)]) (by simp) rfl
              have hgrc := one_set (one_set (one_refl wc g) 1 (.int .i64 L)) 4 (.int .i64 ((cnt : Int) + 1))
              have hbrg : br ≠ g := by have : w.heap.size ≤ br := hbrw; omega
              have hfed : LpS w ((wc.setCell ⟨g, 1, none⟩ (.int .i64 L)).setCell ⟨g, 4, none⟩ (.int .i64 ((cnt : Int) + 1))) g F row br (rpC oF E C L N M dA oA dn dc n oc) L ask ((cnt : Int) + 1) v v l :=
                ⟨hBb, ownsRow_setCell_below (ownsRow_setCell_below (own_below HO.out hbD (Nat.le_refl _)) (show g < g + 1 by omega) _) (show g < g + 1 by omega) _, (by rw [HROW.out]; exact HFR.out), (by rw [HROW.out]; exact (HV.out.below hbD).other hgrc.size (fun b hlt hne _ _ => hgrc.block b hlt (by intro e; injection e with e; exact hne e))), HBr5.out.grown hgrc hbrg, (fun e => by have := (HO.out.lt br e.symm).2; omega), .inl HROW.out, ((Chg.refl w g row).below hbD).grown hgrc (.inl rfl), hbrg⟩
              have HFD := Lib.hid hfed
              clear hBa hBb hgrc hfed hbb HGB HST
              go_upto_region 15 with fail
              obtain ⟨W3, hW3⟩ : ∃ W3, (wc.setCell ⟨g, 1, none⟩ (.int .i64 L)).setCell ⟨g, 4, none⟩ (.int .i64 ((cnt : Int) + 1)) = W3 := ⟨_, rfl⟩
              rw [hW3] at HFD ⊢
              clear hW3 q0 z0 lz0 qr zr lzr HB5 HBr5
              obtain ⟨qr, zr, lzr⟩ := HFD.out.2.2.2.2.1
              go_wp2_with fail
              go_loopw [7, 88] (fun xb i wr => ∃ (k : Nat) (v' : Value) (l' : List Ob), k ≤ n ∧ i = .int .i64 k ∧ LpS w wr g F row br (rpC oF E C L N M dA oA dn dc n oc) L ask ((cnt : Int) + 1) v' v' l' ∧ con l' = sos ++ con (oos.take k) ∧ l'.length = l0 + k) (fun _ i _ => n - (intOf i).toNat)
              case atStart => exact ⟨0, v, l, by omega, rfl, HFD.out, by rw [HC.out]; simp [con], by rw [HL0.out]; rfl⟩
              case round =>
                obtain ⟨k, v', l', hk, rfl, hLp, hcl, hll⟩ := hrel
                have HLp := Lib.hid hLp
                have HCL := Lib.hid hcl
                have HLL := Lib.hid hll
                clear hLp hcl hll qr zr lzr
                by_cases hlt : k < n
                · have hchg := HLp.out.2.2.2.2.2.2.2.1
                  have hRk : Rd wr wr.heap.size 2 oA n (obCells oos) := HR.out.other hchg.2.2.2.1 (fun b off hn e hb => hchg.2.2.2.2 b hb (HRb.out (by omega) b off e).1 (HRb.out (by omega) b off e).2)
                  obtain ⟨b0, off, rfl, hbl, hk', c0, c1⟩ := ob_at hRk k hlt
                  obtain ⟨xo, hxo⟩ : ∃ xo, oos[k] = xo := ⟨_, rfl⟩
                  have hxm := HX.out oos[k] (List.getElem_mem hk')
                  have hxn := HX4.out oos[k] (List.getElem_mem hk')
                  have hcs := con_snoc oos k hk'
                  rw [hxo] at c0 c1 hxm hxn hcs
                  have hRx : Rd wr wr.heap.size 1 xo.A xo.n (by8 xo.val) := hxm.1.other hchg.2.2.2.1 (fun b off hn e hb => hchg.2.2.2.2 b hb (hxm.2 hn b off e).1 (hxm.2 hn b off e).2.1)
                  have HRX := Lib.hid hRx
                  have HCS := Lib.hid hcs
                  clear hchg hRk hRx hxm hcs hxo
                  obtain ⟨xid, xA, xn, xc, xval⟩ := xo
                  dsimp only at c0 c1 hxn HRX HCS
                  go_upto_region 18 with fail
                  obtain ⟨rw0, hrw⟩ : ∃ r, v'.ownBlock = r := ⟨_, rfl⟩
                  have HRW := Lib.hid hrw
                  have hb5 : Below wr.heap.size wr (wr.alloc (.cells #[.int .i64 xid, .slice xA xn xc] 48)).drew := below_drew ((Below.refl _ _).alloc (Nat.le_refl _) _)
                  have hB5 : Box (wr.alloc (.cells #[.int .i64 xid, .slice xA xn xc] 48)).drew wr.heap.size #[.int .i64 xid, .slice xA xn xc] := Box.drew Box.alloc_
                  have HLS := Lib.hid (HLp.out.below hb5)
                  have HRX := Lib.hid ((HRX.out.below hb5 (Nat.le_refl _)).more hb5.size)
                  have hbxn : ¬ (wr.heap.size = g ∨ some wr.heap.size = rw0) := by
                    rintro (h | h)
                    · have := HLp.out.1.2.2; omega
                    · have := (HLp.out.2.1.lt wr.heap.size (by rw [hrw]; exact h.symm)).2; omega
                  have HCLN := Lib.hid (fun (W : World) (h : Rd W W.heap.size 1 xA xn (by8 xval)) => clone_any xA xn xc W.heap.size xval W h (by omega))
                  obtain ⟨x0, hx0⟩ : ∃ x, (wr.alloc (.cells #[.int .i64 xid, .slice xA xn xc] 48)).drew = x := ⟨_, rfl⟩
                  obtain ⟨bx, hbx⟩ : ∃ bx, wr.heap.size = bx := ⟨_, rfl⟩
                  rw [hx0] at HLS HRX hB5
                  rw [hbx] at hB5 hbxn ⊢
                  obtain ⟨qx, zx, lx⟩ := hB5
                  have y0 : x0.cell? ⟨bx, 0, none⟩ = some (.int .i64 xid) := qx 0
                  have y1 : x0.cell? ⟨bx, 1, none⟩ = some (.slice xA xn xc) := qx 1
                  clear hrw hb5 HLp qx zx c0 c1 hbx
                  refine rgx_start_x (X := fun b => b = g ∨ some b = rw0) (by kernel_rfl) ?_
                  rw [hx0]
                  refine rgx_t (v := ?_) (some 92) 0 (by kernel_rfl) rfl rfl (.inl ⟨by rfl, fun w' q => ?_⟩) ?_
                  rotate_left
                  · go_simp <;> with_reducible rfl
                  try simp only [Act.put, List.setIfInBounds_toArray, List.set_cons_zero, List.set_cons_succ]
                  refine rgx_t (v := ?_) (some 93) 1 (by kernel_rfl) rfl rfl (.inl ⟨by rfl, fun w' q => ?_⟩) ?_
                  rotate_left
                  · go_simp <;> with_reducible rfl
                  try simp only [Act.put, List.setIfInBounds_toArray, List.set_cons_zero, List.set_cons_succ]
                  refine rgx_t (v := ?_) (some 94) 2 (by kernel_rfl) rfl rfl (.inl ⟨by rfl, fun w' q => ?_⟩) ?_
                  rotate_left
                  · go_simp <;> with_reducible rfl
                  try simp only [Act.put, List.setIfInBounds_toArray, List.set_cons_zero, List.set_cons_succ]
                  refine rgx_t (v := ?_) (some 95) 3 (by kernel_rfl) rfl rfl (.inl ⟨by rfl, fun w' q => ?_⟩) ?_
                  rotate_left
                  · go_simp <;> with_reducible rfl
                  try simp only [Act.put, List.setIfInBounds_toArray, List.set_cons_zero, List.set_cons_succ]
                  refine rgx_t (v := ?_) (some 97) 5 (by kernel_rfl) rfl rfl (.inl ⟨by rfl, fun w' q => ?_⟩) ?_
                  rotate_left
                  · go_simp <;> with_reducible rfl
                  try simp only [Act.put, List.setIfInBounds_toArray, List.set_cons_zero, List.set_cons_succ]
                  refine rgx_t (v := ?_) (some 98) 6 (by kernel_rfl) rfl rfl (.inl ⟨by rfl, fun w' q => ?_⟩) ?_
                  rotate_left
                  · go_simp <;> with_reducible rfl
                  try simp only [Act.put, List.setIfInBounds_toArray, List.set_cons_zero, List.set_cons_succ]
                  refine rgx_t (v := ?_) (some 99) 7 (by kernel_rfl) rfl rfl (.inl ⟨by rfl, fun w' q => ?_⟩) ?_
                  rotate_left
                  · go_simp <;> with_reducible rfl
                  try simp only [Act.put, List.setIfInBounds_toArray, List.set_cons_zero, List.set_cons_succ]
                  refine rgx_t (v := ?_) (some 100) 8 (by kernel_rfl) rfl rfl (.inl ⟨by rfl, fun w' q => ?_⟩) ?_
                  rotate_left
                  · go_simp <;> with_reducible rfl
                  try simp only [Act.put, List.setIfInBounds_toArray, List.set_cons_zero, List.set_cons_succ]
                  refine rgx_2 4 9 (by kernel_rfl) ?_ ?_
                  · refine ⟨_, rfl, by rfl, fun K hK => ?_⟩
                    obtain ⟨q4, z4, l4⟩ := HLS.out.1
                    go_simp
                    obtain ⟨x1, hE⟩ : ∃ W : World, W = x0 := ⟨_, rfl⟩
                    subst hE
                    refine hK (fun b => b = g ∨ some b = rw0) _ _ (fun b h => .inl h) (Mem.refl _ _) ?_
                    clear q4 z4 l4
                    clear hK K
                    try simp only [Act.put, List.setIfInBounds_toArray, List.set_cons_zero, List.set_cons_succ]
                    refine rgx_1 9 (by kernel_rfl) ?_
                    refine ⟨_, rfl, by rfl, fun K hK => ?_⟩
                    go_simp
                    refine (HCLN.out _ HRX.out).mono ?_
                    rintro e x2 ⟨cv, rfl, hcown, hb⟩
                    obtain ⟨cA, cc, hcv, _, hcR⟩ := own_form hcown
                    subst hcv
                    have hcq : 0 < xn → ∀ b off, cA = some ⟨b, off, none⟩ → b ≠ g ∧ some b ≠ rw0 ∧ ¬ F b := by
                      intro _ b off e
                      have h1 := (hcown.lt b (by rw [e]; rfl)).1
                      have h2 := HLS.out.1.2.2
                      have h3 := HLS.out.2.2.2.2.2.2.2.1.2.2.2.1
                      refine ⟨by omega, fun e2 => ?_, fun hf => ?_⟩
                      · have := (HLS.out.2.1.lt b (by rw [HRW.out]; exact e2.symm)).2; omega
                      · have := HFF.out b hf; omega
                    have HCQ := Lib.hid hcq
                    have HLS := Lib.hid (HLS.out.below hb)
                    have HCR := Lib.hid hcR
                    refine hK (fun b => b = g ∨ some b = rw0) _ _ (fun b h => .inl h) (Mem.of_below hb) ?_
                    clear hcown hb hcR hcq
                    clear hK K
                    try simp only [Act.put, List.setIfInBounds_toArray, List.set_cons_zero, List.set_cons_succ]
                    refine rgx_t (v := ?_) (some 102) 10 (by kernel_rfl) rfl rfl (.inl ⟨by rfl, fun w' q => ?_⟩) ?_
                    rotate_left
                    · go_simp <;> with_reducible rfl
                    try simp only [Act.put, List.setIfInBounds_toArray, List.set_cons_zero, List.set_cons_succ]
                    refine rgx_1 11 (by kernel_rfl) ?_
                    refine ⟨_, rfl, by rfl, fun K hK => ?_⟩
                    go_simp
                    have hb := (Below.refl x2.heap.size x2).alloc (Nat.le_refl _) (.cells #[.int .i64 xid, .slice cA xn cc] 48)
                    obtain ⟨bl, hbl2⟩ : ∃ bl, x2.heap.size = bl := ⟨_, rfl⟩
                    have hRl : Rd (x2.alloc (.cells #[.int .i64 xid, .slice cA xn cc] 48)) (bl + 1) 2 (some ⟨bl, 0, none⟩) 1 [.int .i64 xid, .slice cA xn cc] := by rw [← hbl2]; exact Rd.lit rfl (Nat.lt_succ_self _)
                    have HLS := Lib.hid (HLS.out.below hb)
                    have HCR := Lib.hid ((HCR.out.below hb (Nat.le_refl _)).more hb.size)
                    obtain ⟨x3, hW⟩ : ∃ W, x2.alloc (.cells #[.int .i64 xid, .slice cA xn cc] 48) = W := ⟨_, rfl⟩
                    rw [hW] at HLS HCR hRl hb ⊢
                    rw [hbl2]
                    refine hK (fun b => b = g ∨ some b = rw0) _ _ (fun b h => .inl h) (Mem.of_below hb) ?_
                    have HRL := Lib.hid hRl
                    clear hb hbl2 hRl hW
                    clear hK K
                    try simp only [Act.put, List.setIfInBounds_toArray, List.set_cons_zero, List.set_cons_succ]
                    refine rgx_1 12 (by kernel_rfl) ?_
                    refine ⟨_, rfl, by rfl, fun K hK => ?_⟩
                    refine wp_appR (.tmp 96) (.tmp 103) 28 (g + 1) 48 _ 2 32 v' l'.length (obCells l') _ ⟨bl, 0, none⟩ 1 1 [.int .i64 xid, .slice cA xn cc] Try.underlying28 objInfo rfl (by decide) rfl rfl rfl HLS.out.2.1 HRL.out (one_ob [⟨xid, cA, xn, cc, xval⟩]) (by have := HLL.out; omega) (by omega) (by have := HLS.out.1.2.2; omega) ?_
                    intro v2 x4 hown2 hg2 hn2 hb2
                    have hls := HLS.out.app (x := ⟨xid, cA, xn, cc, xval⟩) HFF.out hown2 hg2 hn2 HCR.out (by rw [HRW.out]; exact HCQ.out)
                    have HLS := Lib.hid hls
                    obtain ⟨A2, c2, hv2, _, _⟩ := own_form hown2
                    subst hv2
                    refine hK (fun b => b = g ∨ some b = rw0) _ _ (fun b h => .inl h) (Mem.of_grown hg2 (fun b e => .inr (by rw [← HRW.out]; exact e.symm))) ?_
                    clear hown2 hg2 hn2 hb2 hls
                    clear hK K
                    try simp only [Act.put, List.setIfInBounds_toArray, List.set_cons_zero, List.set_cons_succ]
                    refine rgx_t (v := ?_) (some 105) 13 (by kernel_rfl) rfl rfl (.inl ⟨by rfl, fun w' q => ?_⟩) ?_
                    rotate_left
                    · go_simp <;> with_reducible rfl
                    try simp only [Act.put, List.setIfInBounds_toArray, List.set_cons_zero, List.set_cons_succ]
                    refine rgx_t (v := ?_) (some 106) 14 (by kernel_rfl) rfl rfl (.inl ⟨by rfl, fun w' q => ?_⟩) ?_
                    rotate_left
                    · go_simp <;> with_reducible rfl
                    try simp only [Act.put, List.setIfInBounds_toArray, List.set_cons_zero, List.set_cons_succ]
                    refine rgx_1 15 (by kernel_rfl) ?_
                    refine ⟨_, rfl, by rfl, fun K hK => ?_⟩
                    obtain ⟨q4, z4, l4⟩ := HLS.out.1
                    go_simp
                    have hLs := HLS.out.store
                    have hm : Mem (fun b => b = g ∨ some b = rw0) x4 (x4.setCell ⟨g, 2, none⟩ (.slice A2 (l'.length + 1) c2)) := (Mem.refl _ _).of_set (.inl rfl)
                    obtain ⟨x5, hW⟩ : ∃ W, (x4.setCell ⟨g, 2, none⟩ (.slice A2 (l'.length + 1) c2)) = W := ⟨_, rfl⟩
                    rw [hW] at hLs hm ⊢
                    refine hK (fun b => b = g ∨ some b = rw0) _ _ (fun b h => .inl h) hm ?_
                    have HLS := Lib.hid hLs
                    clear q4 z4 l4 hm hLs hW
                    clear hK K
                    try simp only [Act.put, List.setIfInBounds_toArray, List.set_cons_zero, List.set_cons_succ]
                    refine rgx_d (by kernel_rfl) ?_
                    go_wp2_with fail
                    go_roundw
                    case rel => exact ⟨k + 1, _, _, by omega, by go_num, HLS.out, by rw [HCS.out, ← List.append_assoc, ← HCL.out]; simp [con], by have := HLL.out; simp; omega⟩
                    case measure => simp [intOf]; omega
                  · refine ⟨_, rfl, by rfl, fun K hK => ?_⟩
                    go_simp
                    refine (HCLN.out _ HRX.out).mono ?_
                    rintro e x1 ⟨cv, rfl, hcown, hb⟩
                    obtain ⟨cA, cc, hcv, _, hcR⟩ := own_form hcown
                    subst hcv
                    have hcq : 0 < xn → ∀ b off, cA = some ⟨b, off, none⟩ → b ≠ g ∧ some b ≠ rw0 ∧ ¬ F b := by
                      intro _ b off e
                      have h1 := (hcown.lt b (by rw [e]; rfl)).1
                      have h2 := HLS.out.1.2.2
                      have h3 := HLS.out.2.2.2.2.2.2.2.1.2.2.2.1
                      refine ⟨by omega, fun e2 => ?_, fun hf => ?_⟩
                      · have := (HLS.out.2.1.lt b (by rw [HRW.out]; exact e2.symm)).2; omega
                      · have := HFF.out b hf; omega
                    have HCQ := Lib.hid hcq
                    have HLS := Lib.hid (HLS.out.below hb)
                    have HCR := Lib.hid hcR
                    refine hK (fun b => b = g ∨ some b = rw0) _ _ (fun b h => .inl h) (Mem.of_below hb) ?_
                    clear hcown hb hcR hcq
                    clear hK K
                    try simp only [Act.put, List.setIfInBounds_toArray, List.set_cons_zero, List.set_cons_succ]
                    refine rgx_t (v := ?_) (some 102) 10 (by kernel_rfl) rfl rfl (.inl ⟨by rfl, fun w' q => ?_⟩) ?_
                    rotate_left
                    · go_simp <;> with_reducible rfl
                    try simp only [Act.put, List.setIfInBounds_toArray, List.set_cons_zero, List.set_cons_succ]
                    refine rgx_2 4 11 (by kernel_rfl) ?_ ?_
                    · refine ⟨_, rfl, by rfl, fun K hK => ?_⟩
                      obtain ⟨q4, z4, l4⟩ := HLS.out.1
                      go_simp
                      obtain ⟨x2, hE⟩ : ∃ W : World, W = x1 := ⟨_, rfl⟩
                      subst hE
                      refine hK (fun b => b = g ∨ some b = rw0) _ _ (fun b h => .inl h) (Mem.refl _ _) ?_
                      clear q4 z4 l4
                      clear hK K
                      try simp only [Act.put, List.setIfInBounds_toArray, List.set_cons_zero, List.set_cons_succ]
                      refine rgx_1 11 (by kernel_rfl) ?_
                      refine ⟨_, rfl, by rfl, fun K hK => ?_⟩
                      go_simp
                      have hb := (Below.refl x2.heap.size x2).alloc (Nat.le_refl _) (.cells #[.int .i64 xid, .slice cA xn cc] 48)
                      obtain ⟨bl, hbl2⟩ : ∃ bl, x2.heap.size = bl := ⟨_, rfl⟩
                      have hRl : Rd (x2.alloc (.cells #[.int .i64 xid, .slice cA xn cc] 48)) (bl + 1) 2 (some ⟨bl, 0, none⟩) 1 [.int .i64 xid, .slice cA xn cc] := by rw [← hbl2]; exact Rd.lit rfl (Nat.lt_succ_self _)
                      have HLS := Lib.hid (HLS.out.below hb)
                      have HCR := Lib.hid ((HCR.out.below hb (Nat.le_refl _)).more hb.size)
                      obtain ⟨x3, hW⟩ : ∃ W, x2.alloc (.cells #[.int .i64 xid, .slice cA xn cc] 48) = W := ⟨_, rfl⟩
                      rw [hW] at HLS HCR hRl hb ⊢
                      rw [hbl2]
                      refine hK (fun b => b = g ∨ some b = rw0) _ _ (fun b h => .inl h) (Mem.of_below hb) ?_
                      have HRL := Lib.hid hRl
                      clear hb hbl2 hRl hW
                      clear hK K
                      try simp only [Act.put, List.setIfInBounds_toArray, List.set_cons_zero, List.set_cons_succ]
                      refine rgx_1 12 (by kernel_rfl) ?_
                      refine ⟨_, rfl, by rfl, fun K hK => ?_⟩
                      refine wp_appR (.tmp 96) (.tmp 103) 28 (g + 1) 48 _ 2 32 v' l'.length (obCells l') _ ⟨bl, 0, none⟩ 1 1 [.int .i64 xid, .slice cA xn cc] Try.underlying28 objInfo rfl (by decide) rfl rfl rfl HLS.out.2.1 HRL.out (one_ob [⟨xid, cA, xn, cc, xval⟩]) (by have := HLL.out; omega) (by omega) (by have := HLS.out.1.2.2; omega) ?_
                      intro v2 x4 hown2 hg2 hn2 hb2
                      have hls := HLS.out.app (x := ⟨xid, cA, xn, cc, xval⟩) HFF.out hown2 hg2 hn2 HCR.out (by rw [HRW.out]; exact HCQ.out)
                      have HLS := Lib.hid hls
                      obtain ⟨A2, c2, hv2, _, _⟩ := own_form hown2
                      subst hv2
                      refine hK (fun b => b = g ∨ some b = rw0) _ _ (fun b h => .inl h) (Mem.of_grown hg2 (fun b e => .inr (by rw [← HRW.out]; exact e.symm))) ?_
                      clear hown2 hg2 hn2 hb2 hls
                      clear hK K
                      try simp only [Act.put, List.setIfInBounds_toArray, List.set_cons_zero, List.set_cons_succ]
                      refine rgx_t (v := ?_) (some 105) 13 (by kernel_rfl) rfl rfl (.inl ⟨by rfl, fun w' q => ?_⟩) ?_
                      rotate_left
                      · go_simp <;> with_reducible rfl
                      try simp only [Act.put, List.setIfInBounds_toArray, List.set_cons_zero, List.set_cons_succ]
                      refine rgx_t (v := ?_) (some 106) 14 (by kernel_rfl) rfl rfl (.inl ⟨by rfl, fun w' q => ?_⟩) ?_
                      rotate_left
                      · go_simp <;> with_reducible rfl
                      try simp only [Act.put, List.setIfInBounds_toArray, List.set_cons_zero, List.set_cons_succ]
                      refine rgx_1 15 (by kernel_rfl) ?_
                      refine ⟨_, rfl, by rfl, fun K hK => ?_⟩
                      obtain ⟨q4, z4, l4⟩ := HLS.out.1
                      go_simp
                      have hLs := HLS.out.store
                      have hm : Mem (fun b => b = g ∨ some b = rw0) x4 (x4.setCell ⟨g, 2, none⟩ (.slice A2 (l'.length + 1) c2)) := (Mem.refl _ _).of_set (.inl rfl)
                      obtain ⟨x5, hW⟩ : ∃ W, (x4.setCell ⟨g, 2, none⟩ (.slice A2 (l'.length + 1) c2)) = W := ⟨_, rfl⟩
                      rw [hW] at hLs hm ⊢
                      refine hK (fun b => b = g ∨ some b = rw0) _ _ (fun b h => .inl h) hm ?_
                      have HLS := Lib.hid hLs
                      clear q4 z4 l4 hm hLs hW
                      clear hK K
                      try simp only [Act.put, List.setIfInBounds_toArray, List.set_cons_zero, List.set_cons_succ]
                      refine rgx_d (by kernel_rfl) ?_
                      go_wp2_with fail
                      go_roundw
                      case rel => exact ⟨k + 1, _, _, by omega, by go_num, HLS.out, by rw [HCS.out, ← List.append_assoc, ← HCL.out]; simp [con], by have := HLL.out; simp; omega⟩
                      case measure => simp [intOf]; omega
                    · refine ⟨_, rfl, by rfl, fun K hK => ?_⟩
                      go_simp
                      have hb := (Below.refl x1.heap.size x1).alloc (Nat.le_refl _) (.cells #[.int .i64 xid, .slice cA xn cc] 48)
                      obtain ⟨bl, hbl2⟩ : ∃ bl, x1.heap.size = bl := ⟨_, rfl⟩
                      have hRl : Rd (x1.alloc (.cells #[.int .i64 xid, .slice cA xn cc] 48)) (bl + 1) 2 (some ⟨bl, 0, none⟩) 1 [.int .i64 xid, .slice cA xn cc] := by rw [← hbl2]; exact Rd.lit rfl (Nat.lt_succ_self _)
                      have HLS := Lib.hid (HLS.out.below hb)
                      have HCR := Lib.hid ((HCR.out.below hb (Nat.le_refl _)).more hb.size)
                      obtain ⟨x2, hW⟩ : ∃ W, x1.alloc (.cells #[.int .i64 xid, .slice cA xn cc] 48) = W := ⟨_, rfl⟩
                      rw [hW] at HLS HCR hRl hb ⊢
                      rw [hbl2]
                      refine hK (fun b => b = g ∨ some b = rw0) _ _ (fun b h => .inl h) (Mem.of_below hb) ?_
                      have HRL := Lib.hid hRl
                      clear hb hbl2 hRl hW
                      clear hK K
                      try simp only [Act.put, List.setIfInBounds_toArray, List.set_cons_zero, List.set_cons_succ]
                      refine rgx_1 4 (by kernel_rfl) ?_
                      refine ⟨_, rfl, by rfl, fun K hK => ?_⟩
                      obtain ⟨q4, z4, l4⟩ := HLS.out.1
                      go_simp
                      obtain ⟨x3, hE⟩ : ∃ W : World, W = x2 := ⟨_, rfl⟩
                      subst hE
                      refine hK (fun b => b = g ∨ some b = rw0) _ _ (fun b h => .inl h) (Mem.refl _ _) ?_
                      clear q4 z4 l4
                      clear hK K
                      try simp only [Act.put, List.setIfInBounds_toArray, List.set_cons_zero, List.set_cons_succ]
                      refine rgx_1 12 (by kernel_rfl) ?_
                      refine ⟨_, rfl, by rfl, fun K hK => ?_⟩
                      refine wp_appR (.tmp 96) (.tmp 103) 28 (g + 1) 48 _ 2 32 v' l'.length (obCells l') _ ⟨bl, 0, none⟩ 1 1 [.int .i64 xid, .slice cA xn cc] Try.underlying28 objInfo rfl (by decide) rfl rfl rfl HLS.out.2.1 HRL.out (one_ob [⟨xid, cA, xn, cc, xval⟩]) (by have := HLL.out; omega) (by omega) (by have := HLS.out.1.2.2; omega) ?_
                      intro v2 x4 hown2 hg2 hn2 hb2
                      have hls := HLS.out.app (x := ⟨xid, cA, xn, cc, xval⟩) HFF.out hown2 hg2 hn2 HCR.out (by rw [HRW.out]; exact HCQ.out)
                      have HLS := Lib.hid hls
                      obtain ⟨A2, c2, hv2, _, _⟩ := own_form hown2
                      subst hv2
                      refine hK (fun b => b = g ∨ some b = rw0) _ _ (fun b h => .inl h) (Mem.of_grown hg2 (fun b e => .inr (by rw [← HRW.out]; exact e.symm))) ?_
                      clear hown2 hg2 hn2 hb2 hls
                      clear hK K
                      try simp only [Act.put, List.setIfInBounds_toArray, List.set_cons_zero, List.set_cons_succ]
                      refine rgx_t (v := ?_) (some 105) 13 (by kernel_rfl) rfl rfl (.inl ⟨by rfl, fun w' q => ?_⟩) ?_
                      rotate_left
                      · go_simp <;> with_reducible rfl
                      try simp only [Act.put, List.setIfInBounds_toArray, List.set_cons_zero, List.set_cons_succ]
                      refine rgx_t (v := ?_) (some 106) 14 (by kernel_rfl) rfl rfl (.inl ⟨by rfl, fun w' q => ?_⟩) ?_
                      rotate_left
                      · go_simp <;> with_reducible rfl
                      try simp only [Act.put, List.setIfInBounds_toArray, List.set_cons_zero, List.set_cons_succ]
                      refine rgx_1 15 (by kernel_rfl) ?_
                      refine ⟨_, rfl, by rfl, fun K hK => ?_⟩
                      obtain ⟨q4, z4, l4⟩ := HLS.out.1
                      go_simp
                      have hLs := HLS.out.store
                      have hm : Mem (fun b => b = g ∨ some b = rw0) x4 (x4.setCell ⟨g, 2, none⟩ (.slice A2 (l'.length + 1) c2)) := (Mem.refl _ _).of_set (.inl rfl)
                      obtain ⟨x5, hW⟩ : ∃ W, (x4.setCell ⟨g, 2, none⟩ (.slice A2 (l'.length + 1) c2)) = W := ⟨_, rfl⟩
                      rw [hW] at hLs hm ⊢
                      refine hK (fun b => b = g ∨ some b = rw0) _ _ (fun b h => .inl h) hm ?_
                      have HLS := Lib.hid hLs
                      clear q4 z4 l4 hm hLs hW
                      clear hK K
                      try simp only [Act.put, List.setIfInBounds_toArray, List.set_cons_zero, List.set_cons_succ]
                      refine rgx_d (by kernel_rfl) ?_
                      go_wp2_with fail
                      go_roundw
                      case rel => exact ⟨k + 1, _, _, by omega, by go_num, HLS.out, by rw [HCS.out, ← List.append_assoc, ← HCL.out]; simp [con], by have := HLL.out; simp; omega⟩
                      case measure => simp [intOf]; omega
                · obtain rfl : k = n := by omega
                  have hcl := HCL.out
                  rw [List.take_of_length_le (by rw [HN.out]; exact Nat.le_refl _)] at hcl
                  have HCL2 := Lib.hid hcl
                  obtain ⟨qr, zr, lzr⟩ := HLp.out.2.2.2.2.1
                  obtain ⟨q0, z0, lz0⟩ := HLp.out.1
                  clear hcl
                  cases M
                  · have hfin := HLp.out.close 2 N (cnt + 1) _ HCL2.out (by omega)
                    have HFIN := Lib.hid hfin
                    clear hfin
                    go_wp2
                    go_ret
                    exact ⟨rfl, by rw [HSN.out]; exact HFIN.out⟩
                  · by_cases h32 : cnt + 1 = 32
                    · have hfin := HLp.out.close 4 N (cnt + 1) _ HCL2.out (by omega)
                      have HFIN := Lib.hid hfin
                      have d1 : ((cnt : Int) + 1 == 32) = true := by simp; omega
                      have hs : (if true = false then (2 : Int) else if cnt + 1 = 32 then 4 else 0) = 4 := by simp [h32]
                      have HS4 := Lib.hid hs
                      clear hfin hs h32
                      go_wp2
                      go_ret
                      exact ⟨rfl, by rw [HSN.out, HS4.out]; exact HFIN.out⟩
                    · have hfin := HLp.out.close0 N (cnt + 1) _ HCL2.out (by omega)
                      have HFIN := Lib.hid hfin
                      have d1 : ((cnt : Int) + 1 == 32) = false := by simp; omega
                      have hs : (if true = false then (2 : Int) else if cnt + 1 = 32 then 4 else 0) = 0 := by simp [h32]
                      have HS4 := Lib.hid hs
                      clear hfin hs h32
                      go_wp2
                      go_ret
                      exact ⟨rfl, by rw [HSN.out, HS4.out]; exact HFIN.out⟩
            · have HSN := Lib.hid ((HST.out _).2 (if_pos (.inr (by simpa using hbb))))
              clear hbb
              go_wp2
              go_ret
              exact ⟨rfl, by rw [HSN.out]; exact FIN.out 4 _ (.inr rfl) hbD⟩
end Go.Proofs.Ytpbmolijoadonaa

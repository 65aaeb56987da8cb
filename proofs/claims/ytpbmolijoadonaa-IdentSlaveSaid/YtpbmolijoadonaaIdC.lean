/- Layer 22: New, what a closed or nil identification does; the chapter's example; the law IdentClosed. -/
import Derived.Test.YtpbmolijoadonaaIdF
import Derived.Test.YtpbmolijoadonaaIdS
set_option linter.unusedVariables false
set_option linter.unusedSimpArgs false
namespace Go.Proofs.Ytpbmolijoadonaa
open Go.RowKit

abbrev S0 : Ist := ⟨0, 0, 0, 0, []⟩
abbrev noF : Nat → Prop := fun _ => False
theorem id_new (w : World) (g : Nat) (F : Nat → Prop) (h : Box w g #[.int .i64 0, .int .i64 0, .slice none 0 0, .int .i64 0, .int .i64 0]) : IdAt w g F none S0 :=
  ⟨0, 0, 0, .slice none 0 0, [], rfl, h, World.ownsRow_nil _ _ _ _, fun b hb => (by cases hb), fun o ho => (by simp at ho), fun _ => ⟨rfl, rfl⟩, fun _ => ⟨rfl, rfl⟩⟩
theorem new_any (w : World) : Calls Try.prog 9 #[] w fun e w' => ∃ g, e = .returned (iptr g) ∧ w.heap.size ≤ g ∧ (∀ F, IdAt w' g F none S0) ∧ Below w.heap.size w w' := by
  go_enter Try.func9, Try.ntmps9
  go_wp2
  go_ret
  exact ⟨_, rfl, Nat.le_refl _, fun F => id_new _ _ F Box.alloc_, (Below.refl _ _).alloc (Nat.le_refl _) _⟩
set_option maxRecDepth 100000 in
theorem feed_nil (o : Oc) (w : World) : Calls Try.prog 15 #[.pointer none, .agg (ocArr o)] w fun e w' => e = .returned (.int .i64 13) ∧ Below w.heap.size w w' := by
  obtain ⟨V, oF, E, dA, dn, dc, C, L, M, N, oA, oc, dxs, oos⟩ := o
  go_enter Try.func15, Try.ntmps15
  go_wp2
  go_ret
  exact ⟨rfl, (Below.refl _ _).alloc (Nat.le_refl _) _⟩
set_option maxRecDepth 100000 in
set_option maxHeartbeats 1000000 in
theorem feed_closed (S : Ist) (g : Nat) (F : Nat → Prop) (row : Option Nat) (o : Oc) (w : World) (hS : IdAt w g F row S) (h0 : S.st ≠ 0) : Calls Try.prog 15 #[iptr g, .agg (ocArr o)] w fun e w' => e = .returned (.int .i64 12) ∧ Below w.heap.size w w' := by
  obtain ⟨lv, nx, rp, v, l, hrow, hB, hO, hfr, hV, h4, h5⟩ := hS
  obtain ⟨V, oF, E, dA, dn, dc, C, L, M, N, oA, oc, dxs, oos⟩ := o
  obtain ⟨st, hst⟩ : ∃ st, S.st = st := ⟨_, rfl⟩
  rw [hst] at hB h0
  have hd : (st != 0) = true := by simpa using h0
  obtain ⟨q1, z1, l1⟩ := hB.alloc' (.cells #[.int .i64 V, .int .i64 oF, .int .i64 E, .slice dA dn dc, .int .i64 C, .int .i64 L, .bool M, .int .i64 N, .slice oA oos.length oc] 44)
  have hgl := hB.2.2
  clear h4 h5 hV hfr hO hrow hst h0 hB
  go_enter Try.func15, Try.ntmps15
  go_wp2
  go_ret
  exact ⟨rfl, (Below.refl _ _).alloc (Nat.le_refl _) _⟩
theorem result_nil (w : World) : Calls Try.prog 12 #[.pointer none] w fun e w' => e = .returned (.tuple #[.int .i64 0, .int .i64 0, .slice none 0 0]) ∧ w = w' := by
  go_enter Try.func12, Try.ntmps12
  go_wp2
  go_ret3
  exact ⟨rfl, rfl⟩
theorem Vals.nils {w : World} {g : Nat} {row : Option Nat} {F : Nat → Prop} {l : List Ob} (h : ∀ x ∈ l, x.A = none ∧ x.n = 0 ∧ x.val = []) : Vals w g row F l := by
  intro o ho
  obtain ⟨h1, h2, h3⟩ := h o ho
  rw [h1, h2, h3]
  exact ⟨Rd.nil_, fun h => absurd h (by omega)⟩
/-- An outcome with two objects without values, just laid in a block of its own. -/
theorem fed_two {w W : World} {g a b : Nat} {row : Option Nat} {V oF E C L N : Int} {M : Bool} {x y : Int} (hW : w.alloc (.cells #[.int .i64 x, .slice none 0 0, .int .i64 y, .slice none 0 0] 48) = W) (hg : g < w.heap.size) (hr : ∀ c, row = some c → c < w.heap.size) :
    OcFed W g row ⟨V, oF, E, none, 0, 0, C, L, M, N, some ⟨w.heap.size, 0, none⟩, 2, [], [⟨x, none, 0, 0, []⟩, ⟨y, none, 0, 0, []⟩]⟩ := by
  subst hW
  refine ⟨?_, fun _ c off e => ?_, by simp, Vals.nils (by simp), by simp⟩
  · exact (Rd.lit (B := w.heap.size + 1) rfl (Nat.lt_succ_self _)).more (by simp)
  · injection e with e
    injection e with e
    subst e
    exact ⟨by omega, fun e => by have := hr _ e.symm; omega⟩
theorem IdAt.row_lt {w : World} {g : Nat} {F : Nat → Prop} {row : Option Nat} {S : Ist} (h : IdAt w g F row S) : ∀ c, row = some c → g + 1 ≤ c ∧ c < w.heap.size := by
  obtain ⟨lv, nx, rp, v, l, h0, h1, h2, _⟩ := h
  intro c hc
  exact h2.lt c (by rw [h0]; exact hc)
theorem IdAt.box_lt {w : World} {g : Nat} {F : Nat → Prop} {row : Option Nat} {S : Ist} (h : IdAt w g F row S) : g < w.heap.size := by
  obtain ⟨lv, nx, rp, v, l, h0, h1, _⟩ := h
  exact h1.2.2
theorem fed_below {w0 w w' : World} {B g : Nat} {F : Nat → Prop} {row : Option Nat} {S S' : Ist} (h : Below B w0 w) (hI : IdAt w g F row S) (hB : B ≤ w.heap.size) (hg : B ≤ g) (hc : Chg w w' g row) : Below B w0 w' :=
  below_chg h hc hB hg (fun b hb => by have := (hI.row_lt b hb).1; omega)

set_option maxRecDepth 100000 in
set_option maxHeartbeats 4000000 in
theorem awake_any (w : World) : Calls Try.prog 8 #[] w fun e w' => e = .returned (.bool true) ∧ Below w.heap.size w w' := by
  go_enter Try.func8, Try.ntmps8
  go_wp2_with fail
  refine (new_any _).mono ?_
  rintro e w1 ⟨g, rfl, hg, hI, hb1⟩
  have HI1 := Lib.hid ((hI noF).below ((Below.refl w1.heap.size w1).alloc (Nat.le_refl _) (.cells #[.int .i64 0, .slice none 0 0, .int .i64 1, .slice none 0 0] 48)))
  have hb2 := ext_alloc hb1 (.cells #[.int .i64 0, .slice none 0 0, .int .i64 1, .slice none 0 0] 48)
  have hgl := (hI noF).box_lt
  obtain ⟨W1, hW1⟩ : ∃ W1, w1.alloc (.cells #[.int .i64 0, .slice none 0 0, .int .i64 1, .slice none 0 0] 48) = W1 := ⟨_, rfl⟩
  have hfed : OcFed W1 g none ⟨1, 43, 0, none, 0, 0, 3, 3, true, 2, some ⟨w1.heap.size, 0, none⟩, 2, [], [⟨0, none, 0, 0, []⟩, ⟨1, none, 0, 0, []⟩]⟩ := fed_two (a := 0) (b := 0) hW1 hgl (fun c hc => by cases hc)
  rw [hW1] at HI1 hb2
  have hfd := feed_any S0 g noF none ⟨1, 43, 0, none, 0, 0, 3, 3, true, 2, some ⟨w1.heap.size, 0, none⟩, 2, [], [⟨0, none, 0, 0, []⟩, ⟨1, none, 0, 0, []⟩]⟩ W1 HI1.out rfl (by decide) (by decide) (by decide) hfed (fun b h => h.elim)
  rw [show stepI S0 ⟨1, 43, 0, none, 0, 0, 3, 3, true, 2, some ⟨w1.heap.size, 0, none⟩, 2, [], [⟨0, none, 0, 0, []⟩, ⟨1, none, 0, 0, []⟩]⟩ = ⟨0, 3, 2, 1, [(0, []), (1, [])]⟩ by simp [stepI, goodB, ordB, asc, lastOf, ids, con]] at hfd
  have HFD := Lib.hid hfd
  clear hI hb1 hfed hfd
  go_wp2_with fail
  try rw [hW1]
  refine HFD.out.mono ?_
  rintro e w2 ⟨rfl, r2, hI2, _, hc2⟩
  have hbw2 := fed_below (S' := S0) hb2 HI1.out hb2.size hg hc2
  have HI2 := Lib.hid hI2
  clear hW1 HFD hc2 hb2 HI1 hgl hI2
  go_wp2_with fail
  refine (next_any _ g noF r2 _ HI2.out).mono ?_
  rintro e w3 ⟨rfl, hb3⟩
  have HI3 := Lib.hid (HI2.out.below hb3)
  have hbw3 := ext_trans hbw2 hb3
  clear hb3 HI2 hbw2
  rw [show nextV ⟨0, 3, 2, 1, [(0, []), (1, [])]⟩ = .tuple #[.agg #[.int .i64 43, .int .i64 0, .int .i64 0, .int .i64 3, .int .i64 2], .bool true] from rfl]
  have HBq := Lib.hid (Box.alloc_ (w := w3) (cs := #[.int .i64 43, .int .i64 0, .int .i64 0, .int .i64 3, .int .i64 2]) (e := 32))
  have hb4 : Below w3.heap.size w3 (w3.alloc (.cells #[.int .i64 43, .int .i64 0, .int .i64 0, .int .i64 3, .int .i64 2] 32)) := (Below.refl _ _).alloc (Nat.le_refl _) _
  have HI4 := Lib.hid (HI3.out.below hb4)
  have hbw4 := ext_trans hbw3 hb4
  go_upto_region 6 with fail
  have hr3 : ∀ c, r2 = some c → c < w3.heap.size := fun c hc => (HI3.out.row_lt c hc).2
  have hg3 : g < w3.heap.size := HI3.out.box_lt
  obtain ⟨bq, hbq⟩ : ∃ bq, w3.heap.size = bq := ⟨_, rfl⟩
  rw [hbq] at hr3 hg3
  have HR3 := Lib.hid hr3
  obtain ⟨W4, hW4⟩ : ∃ W4, w3.alloc (.cells #[.int .i64 43, .int .i64 0, .int .i64 0, .int .i64 3, .int .i64 2] 32) = W4 := ⟨_, rfl⟩
  rw [hW4] at HBq HI4 hbw4 ⊢
  rw [hbq] at HBq ⊢
  clear hW4 hbq hb4 HI3 hbw3 hr3
  have hbqg : bq < W4.heap.size := HBq.out.2.2
  have hgl := HI4.out.box_lt
  have hb5 := (Below.refl W4.heap.size W4).alloc (Nat.le_refl _) (.cells #[.int .i64 2, .slice none 0 0, .int .i64 128, .slice none 0 0] 48)
  have HI5 := Lib.hid (HI4.out.below hb5)
  have HBq5 := Lib.hid (HBq.out.below hb5)
  have hbw5 := ext_trans hbw4 hb5
  obtain ⟨W5, hW5⟩ : ∃ W5, W4.alloc (.cells #[.int .i64 2, .slice none 0 0, .int .i64 128, .slice none 0 0] 48) = W5 := ⟨_, rfl⟩
  have hfed : OcFed W5 g r2 ⟨1, 43, 0, none, 0, 0, 3, 3, false, 0, some ⟨W4.heap.size, 0, none⟩, 2, [], [⟨2, none, 0, 0, []⟩, ⟨128, none, 0, 0, []⟩]⟩ := fed_two (a := 0) (b := 0) hW5 hgl (fun c hc => (HI4.out.row_lt c hc).2)
  rw [hW5] at HI5 hbw5 HBq5
  have hfd := feed_any ⟨0, 3, 2, 1, [(0, []), (1, [])]⟩ g noF r2 ⟨1, 43, 0, none, 0, 0, 3, 3, false, 0, some ⟨W4.heap.size, 0, none⟩, 2, [], [⟨2, none, 0, 0, []⟩, ⟨128, none, 0, 0, []⟩]⟩ W5 HI5.out rfl (by decide) (by decide) (by decide) hfed (fun b h => h.elim)
  rw [show stepI ⟨0, 3, 2, 1, [(0, []), (1, [])]⟩ ⟨1, 43, 0, none, 0, 0, 3, 3, false, 0, some ⟨W4.heap.size, 0, none⟩, 2, [], [⟨2, none, 0, 0, []⟩, ⟨128, none, 0, 0, []⟩]⟩ = ⟨2, 3, 0, 2, [(0, []), (1, []), (2, []), (128, [])]⟩ by simp [stepI, goodB, ordB, asc, lastOf, ids, con]] at hfd
  have HFD := Lib.hid hfd
  clear hb5 hfed hfd
  go_wp2_with fail
  try rw [hW5]
  refine HFD.out.mono ?_
  rintro e w6 ⟨rfl, r6, hI6, _, hc6⟩
  have hbw6 := fed_below (S' := S0) hbw5 HI5.out hbw5.size hg hc6
  have HI6 := Lib.hid hI6
  have hblk := hc6.2.2.2.2 bq HBq5.out.2.2 (by omega) (fun e => by have := HR3.out bq e.symm; omega)
  have y0 : w6.cell? ⟨bq, 0, none⟩ = some (.int .i64 43) := (World.cell?_of_block (a := ⟨bq, 0, none⟩) hblk).trans (HBq5.out.1 0)
  have y1 : w6.cell? ⟨bq, 1, none⟩ = some (.int .i64 0) := (World.cell?_of_block (a := ⟨bq, 1, none⟩) hblk).trans (HBq5.out.1 1)
  have y2 : w6.cell? ⟨bq, 2, none⟩ = some (.int .i64 0) := (World.cell?_of_block (a := ⟨bq, 2, none⟩) hblk).trans (HBq5.out.1 2)
  have y3 : w6.cell? ⟨bq, 3, none⟩ = some (.int .i64 3) := (World.cell?_of_block (a := ⟨bq, 3, none⟩) hblk).trans (HBq5.out.1 3)
  have y4 : w6.cell? ⟨bq, 4, none⟩ = some (.int .i64 2) := (World.cell?_of_block (a := ⟨bq, 4, none⟩) hblk).trans (HBq5.out.1 4)
  have hbq6 : bq < w6.heap.size := Nat.lt_of_lt_of_le HBq5.out.2.2 hc6.2.2.2.1
  clear hblk hc6 HBq HBq5 HI5 HI4 hbw5 hbw4 hW5 HFD hI6
  go_wp2_with fail
  refine (result_any _ g noF r6 _ HI6.out (fun _ => ⟨by decide, by decide⟩)).mono ?_
  rintro e w7 ⟨A7, n7, c7, l7, rfl, hob, hln, hcon, hb7⟩
  have hn4 : n7 = 4 := by rw [← hln]; have := congrArg List.length hcon; simpa [con, resO] using this
  subst hn4
  have z0 : w7.cell? ⟨bq, 0, none⟩ = some (.int .i64 43) := (hb7.cell (p := ⟨bq, 0, none⟩) hbq6).trans y0
  have z1 : w7.cell? ⟨bq, 1, none⟩ = some (.int .i64 0) := (hb7.cell (p := ⟨bq, 1, none⟩) hbq6).trans y1
  have z2 : w7.cell? ⟨bq, 2, none⟩ = some (.int .i64 0) := (hb7.cell (p := ⟨bq, 2, none⟩) hbq6).trans y2
  have z3 : w7.cell? ⟨bq, 3, none⟩ = some (.int .i64 3) := (hb7.cell (p := ⟨bq, 3, none⟩) hbq6).trans y3
  have z4 : w7.cell? ⟨bq, 4, none⟩ = some (.int .i64 2) := (hb7.cell (p := ⟨bq, 4, none⟩) hbq6).trans y4
  have hbw7 := ext_trans hbw6 hb7
  rw [show resL ⟨2, 3, 0, 2, [(0, []), (1, []), (2, []), (128, [])]⟩ = 3 from rfl]
  clear hob hln hcon hb7 y0 y1 y2 y3 y4 hbw6
  go_wp2
  go_ret
  exact ⟨rfl, hbw7⟩
end Go.Proofs.Ytpbmolijoadonaa

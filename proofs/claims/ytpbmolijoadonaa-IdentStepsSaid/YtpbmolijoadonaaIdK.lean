/- Layer 22: the law IdentClosed. -/
import Derived.Test.YtpbmolijoadonaaIdC
set_option linter.unusedVariables false
set_option linter.unusedSimpArgs false
namespace Go.Proofs.Ytpbmolijoadonaa
open Go.RowKit

theorem fed_none {w : World} {g : Nat} {row : Option Nat} {V oF E C L N : Int} {M : Bool} : OcFed w g row ⟨V, oF, E, none, 0, 0, C, L, M, N, none, 0, [], []⟩ :=
  ⟨Rd.nil_, fun h => absurd h (by simp), by simp, Vals.nils (by simp), by simp⟩
theorem res_shut {S : Ist} {w w' : World} {e : Ending} (h : ResOk S w e w') (h2 : S.st ≠ 2) : ∃ A c, e = .returned (.tuple #[.int .i64 S.st, .int .i64 0, .slice A 0 c]) ∧ Below w.heap.size w w' := by
  obtain ⟨A, n, c, l, rfl, _, hn, hc, hb⟩ := h
  rw [resO, if_neg h2] at hc
  have h0 : n = 0 := by rw [← hn]; have := congrArg List.length hc; simpa [con] using this
  subst h0
  exact ⟨A, c, by rw [resL, if_neg h2], hb⟩
set_option maxRecDepth 100000 in
set_option maxHeartbeats 8000000 in
theorem lawClosed_any (o : Oc) (w : World) (hr : Rd w w.heap.size 2 o.oA o.os.length (obCells o.os)) (hm : o.os.length ≤ maxLen) :
    Calls Try.prog 5 #[.agg (ocArr o)] w fun e w' => e = .returned (.bool true) ∧ Below w.heap.size w w' := by
  obtain ⟨V, oF, E, dA, dn, dc, C, L, M, N, oA, oc, dxs, oos⟩ := o
  dsimp only at hr hm
  obtain ⟨b, hb⟩ : ∃ b, (decide (dn ≤ 300) && objSmall oos) = b := ⟨_, rfl⟩
  have HRP := Lib.hid (fun (W : World) (h : Below w.heap.size w W) => reply_any oF E C L N M dA oA dn dc oc w.heap.size oos b W (hr.below h (Nat.le_refl _)) hm hb)
  have HFN := Lib.hid (feed_nil ⟨V, oF, E, dA, dn, dc, C, L, M, N, oA, oc, dxs, oos⟩)
  have HFC := Lib.hid (fun (S : Ist) (g : Nat) (row : Option Nat) (W : World) (h : IdAt W g noF row S) (h0 : S.st ≠ 0) => feed_closed S g noF row ⟨V, oF, E, dA, dn, dc, C, L, M, N, oA, oc, dxs, oos⟩ W h h0)
  unfold ocArr at *
  dsimp only at *
  obtain ⟨n, hn⟩ : ∃ n, oos.length = n := ⟨_, rfl⟩
  rw [hn] at HRP HFN HFC ⊢
  have hb0 : Below w.heap.size w (w.alloc (.cells #[.int .i64 V, .int .i64 oF, .int .i64 E, .slice dA dn dc, .int .i64 C, .int .i64 L, .bool M, .int .i64 N, .slice oA n oc] 44)) := (Below.refl _ _).alloc (Nat.le_refl _) _
  have HB0 := Lib.hid (Box.alloc_ (w := w) (cs := #[.int .i64 V, .int .i64 oF, .int .i64 E, .slice dA dn dc, .int .i64 C, .int .i64 L, .bool M, .int .i64 N, .slice oA n oc]) (e := 44))
  clear hr hm hb hn
  cases b
  · go_enter Try.func5, Try.ntmps5
    go_wp2_with fail
    refine (HRP.out _ hb0).mono ?_
    rintro e w1 ⟨rfl, hb1⟩
    have hbw1 := hb0.trans (hb1.mono hb0.size)
    go_wp2_with fail
    refine (awake_any _).mono ?_
    rintro e w2 ⟨rfl, hb2⟩
    go_wp2
    go_ret
    exact ⟨rfl, ext_trans hbw1 hb2⟩
  · go_enter Try.func5, Try.ntmps5
    go_wp2_with fail
    refine (HRP.out _ hb0).mono ?_
    rintro e w1 ⟨rfl, hb1⟩
    have hbw1 := hb0.trans (hb1.mono hb0.size)
    have HB1 := Lib.hid (HB0.out.below hb1)
    clear hb1 hb0 HB0 HRP
    go_wp2_with fail
    refine (new_any _).mono ?_
    rintro e w2 ⟨g, rfl, hg, hI, hb2⟩
    have hbw2 := ext_trans hbw1 hb2
    have HI2 := Lib.hid (hI noF)
    have HB2 := Lib.hid (HB1.out.below hb2)
    have hgb : w.heap.size < g := by have := HB1.out.2.2; omega
    clear hI hb2 hbw1 HB1 hg
    go_wp2_with fail
    refine (next_nil _).mono ?_
    rintro e w3 ⟨rfl, hb3⟩
    rw [show rqV 0 0 0 = .agg #[.int .i64 0, .int .i64 0, .int .i64 0, .int .i64 0, .int .i64 0] from rfl]
    have hb3' := ext_alloc hb3 (.cells #[.int .i64 0, .int .i64 0, .int .i64 0, .int .i64 0, .int .i64 0] 32)
    have hbw3 := ext_trans hbw2 hb3'
    have HI3 := Lib.hid (HI2.out.below hb3')
    have HB3 := Lib.hid (HB2.out.below hb3')
    go_upto_region 6 with fail
    obtain ⟨W3, hW3⟩ : ∃ W3, w3.alloc (.cells #[.int .i64 0, .int .i64 0, .int .i64 0, .int .i64 0, .int .i64 0] 32) = W3 := ⟨_, rfl⟩
    rw [hW3] at hbw3 HI3 HB3 ⊢
    clear hb3 hb3' hW3 HI2 HB2 hbw2
    go_wp2_with fail
    refine (result_nil _).mono ?_
    rintro e w4 ⟨rfl, rfl⟩
    obtain ⟨q3, z3, l3⟩ := HB3.out
    go_wp2_with fail
    refine (HFN.out _).mono ?_
    rintro e w4 ⟨rfl, hb4⟩
    have hbw4 := ext_trans hbw3 hb4
    have HI4 := Lib.hid (HI3.out.below hb4)
    have HB4 := Lib.hid (HB3.out.below hb4)
    clear hb4 hbw3 HI3 HB3 q3 z3 l3
    have hfd := feed_any S0 g noF none ⟨3, 0, 0, none, 0, 0, 0, 0, false, 0, none, 0, [], []⟩ w4 HI4.out rfl (by decide) (by decide) (by decide) fed_none (fun b h => h.elim)
    rw [show stepI S0 ⟨3, 0, 0, none, 0, 0, 0, 0, false, 0, none, 0, [], []⟩ = ⟨4, 0, 0, 0, []⟩ by simp [stepI, goodB]] at hfd
    have HFD := Lib.hid hfd
    clear hfd
    go_wp2_with fail
    refine HFD.out.mono ?_
    rintro e w5 ⟨rfl, r5, hI5, _, hc5⟩
    have hbw5 := fed_below (S' := S0) hbw4 HI4.out hbw4.size (by omega) hc5
    have HI5 := Lib.hid hI5
    have HB5 := Lib.hid (show Box w5 w.heap.size _ from (by
      have hblk := hc5.2.2.2.2 w.heap.size HB4.out.2.2 (by omega) (fun e => by cases e)
      refine ⟨fun i => ?_, fun i => ?_, Nat.lt_of_lt_of_le HB4.out.2.2 hc5.2.2.2.1⟩
      · rw [World.cell?_of_block (a := ⟨w.heap.size, i, none⟩) hblk]; exact HB4.out.1 i
      · rw [frozen_of_block (p := ⟨w.heap.size, i, none⟩) hblk]; exact HB4.out.2.1 i))
    clear hI5 hc5 hbw4 HI4 HB4 HFD
    go_wp2_with fail
    refine (result_any _ g noF r5 _ HI5.out (fun h => (by cases h))).mono ?_
    rintro e w6 hres
    obtain ⟨A6, c6, rfl, hb6⟩ := res_shut hres (by decide)
    have hbw6 := ext_trans hbw5 hb6
    have HI6 := Lib.hid (HI5.out.below hb6)
    have HB6 := Lib.hid (HB5.out.below hb6)
    clear hres hb6 hbw5 HI5 HB5
    obtain ⟨q6, z6, l6⟩ := HB6.out
    go_wp2_with fail
    refine (HFC.out _ g r5 _ HI6.out (by decide)).mono ?_
    rintro e w7 ⟨rfl, hb7⟩
    have hbw7 := ext_trans hbw6 hb7
    have HI7 := Lib.hid (HI6.out.below hb7)
    clear hb7 hbw6 HI6 HB6 q6 z6 l6
    go_wp2_with fail
    refine (result_any _ g noF r5 _ HI7.out (fun h => (by cases h))).mono ?_
    rintro e w8 hres
    obtain ⟨A8, c8, rfl, hb8⟩ := res_shut hres (by decide)
    have hbw8 := ext_trans hbw7 hb8
    clear hres hb8 hbw7 HI7
    go_wp2_with fail
    refine (awake_any _).mono ?_
    rintro e w9 ⟨rfl, hb9⟩
    go_wp2
    go_ret
    exact ⟨rfl, ext_trans hbw8 hb9⟩
theorem closedI (V F E C L N : Int) (M : Bool) (dA oA : Option Addr) (dn dc oc : Nat) (os : List Ob) (w : World) (hr : Rd w w.heap.size 2 oA os.length (obCells os)) (hm : os.length ≤ maxLen) :
    Calls Try.prog 5 #[.agg #[.int .i64 V, .int .i64 F, .int .i64 E, .slice dA dn dc, .int .i64 C, .int .i64 L, .bool M, .int .i64 N, .slice oA os.length oc]] w fun e w' => e = .returned (.bool true) ∧ Below w.heap.size w w' :=
  lawClosed_any ⟨V, F, E, dA, dn, dc, C, L, M, N, oA, oc, [], os⟩ w hr hm
end Go.Proofs.Ytpbmolijoadonaa

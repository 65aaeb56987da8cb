/- Layer 25: the chapter's example; the law MapNone. -/
import Derived.Test.YtdkkfahnkenplaaNpT
set_option linter.unusedVariables false
set_option linter.unusedSimpArgs false
namespace Go.Proofs.Ytdkkfahnkenplaa
open Go.RowKit
variable {F : Nat → Prop}

abbrev aSet : List Bool := [false, false, true, true, true, true, true, false]
def aStep (S : Mst) : Mst := feedS S (allT aSet S.ks.length (sizeN S)) (!allT aSet S.ks.length (sizeN S))
def aSt : Nat → Mst
  | 0 => ⟨3, 100, 8, 4, 0, 0, 0, [], 0⟩
  | k + 1 => aStep (aSt k)
theorem aSt_ok (k : Nat) (hk : k < 5) : MInv (aSt k) ∧ (aSt k).ks.length < 8 ∧ (aSt k).N = 8 ∧ (aSt k).tb = 3 ∧ (aSt k).fs = 100 ∧ (aSt k).q < 1000000 ∧ (aSt k).ks.length + sizeN (aSt k) ≤ 8 := by
  have : ∀ k : Fin 5, ((((aSt k).ks.length ≤ (aSt k).N ∧ (aSt k).N ≤ 512 ∧ (aSt k).M ≤ 2000 ∧ (aSt k).lo ≤ 2000 ∧ (aSt k).hi ≤ 2000 ∧ (aSt k).q ≤ 1000000) ∧ 1 ≤ (aSt k).M ∧ ((aSt k).mode = 2 → (aSt k).lo + 2 ≤ (aSt k).hi ∧ (aSt k).ks.length + (aSt k).hi ≤ (aSt k).N) ∧ (aSt k).mode ≤ 2) ∧ (aSt k).ks.length < 8 ∧ (aSt k).N = 8 ∧ (aSt k).tb = 3 ∧ (aSt k).fs = 100 ∧ (aSt k).q < 1000000 ∧ (aSt k).ks.length + sizeN (aSt k) ≤ 8) := by decide +kernel
  exact this ⟨k, hk⟩
theorem aSt_end : (aSt 5).ks.length = 8 ∧ (aSt 5).N = 8 ∧ (aSt 5).q = 5 ∧ ofL (aSt 5).ks = [(2, 2), (5, 1), (1, 2)] ∧ (aSt 5).M ≤ 2000 ∧ (aSt 5).lo ≤ 2000 ∧ (aSt 5).hi ≤ 2000 := by decide +kernel

set_option maxRecDepth 100000 in
set_option maxHeartbeats 4000000 in
theorem awake_any (w : World) : Calls Try.prog 10 #[] w fun e w' => e = .returned (.bool true) ∧ Below w.heap.size w w' := by
  have HNW := Lib.hid (mnew_yes 3 100 8 4 w (by decide))
  obtain ⟨z1, z2, z3, z4, z5, z6, z7⟩ := aSt_end
  go_enter Try.func10, Try.ntmps10
  go_wp2_with fail
  refine HNW.out.mono ?_
  rintro e w1 ⟨g, rfl, hg0, hS1, hgl1, hb1⟩
  have HS1 := Lib.hid (show MapAt (fun b => b = g) w1 g (aSt 0) from hS1 _ rfl (fun b hb => by rw [hb]; exact hgl1))
  have HSn := Lib.hid (HS1.out.below ((Below.refl w1.heap.size w1).alloc (Nat.le_refl _) (.cells #[.bool false, .bool false, .bool true, .bool true, .bool true, .bool true, .bool true, .bool false] 4)))
  have HRs := Lib.hid (show Rd (w1.alloc (.cells #[.bool false, .bool false, .bool true, .bool true, .bool true, .bool true, .bool true, .bool false] 4)) (w1.heap.size + 1) 1 (some ⟨w1.heap.size, 0, none⟩) 8 (aSet.map Value.bool) from Rd.lit rfl (Nat.lt_succ_self _))
  have hbw := ext_alloc hb1 (.cells #[.bool false, .bool false, .bool true, .bool true, .bool true, .bool true, .bool true, .bool false] 4)
  have hgl : g < w1.heap.size := HS1.out.cell.2.2.2.2.2.2.2.2.2
  clear hS1 hb1 HS1
  go_wp2_with fail
  obtain ⟨bs, hbs⟩ : ∃ bs, w1.heap.size = bs := ⟨_, rfl⟩
  obtain ⟨W1, hW1⟩ : ∃ W1, w1.alloc (.cells #[.bool false, .bool false, .bool true, .bool true, .bool true, .bool true, .bool true, .bool false] 4) = W1 := ⟨_, rfl⟩
  have hsz : bs < W1.heap.size := by rw [← hW1, ← hbs]; simp
  rw [hW1] at HSn HRs hbw
  rw [hbs] at HRs hgl
  try rw [hW1]
  try rw [hbs]
  clear hW1 hbs
  go_loopw [3, 4, 5] (fun i p b wr => ∃ k : Nat, k ≤ 5 ∧ i = .int .i64 k ∧ MapAt (fun b => b = g) wr g (aSt k) ∧ W1.grownBy wr (some g)) (fun i _ _ _ => 5 - (intOf i).toNat)
  case atStart => exact ⟨0, by omega, rfl, HSn.out, one_refl _ _⟩
  case round =>
    obtain ⟨k, hk, rfl, hSk, hgr⟩ := hrel
    have HSk := Lib.hid hSk
    clear hSk
    have hRk := HRs.out.off_row hgr (by omega) (fun b off hA hh => by injection hA with hA; injection hA with hA _; injection hh with hh; omega)
    have HRk := Lib.hid hRk
    clear hRk
    by_cases hlt : k < 5
    · obtain ⟨p1, p2, p3, p4, p5, p6, p7⟩ := aSt_ok k hlt
      obtain ⟨l, hl⟩ : ∃ l, (aSt k).ks.length = l := ⟨_, rfl⟩
      obtain ⟨n, hn⟩ : ∃ n, sizeN (aSt k) = n := ⟨_, rfl⟩
      obtain ⟨y, hy⟩ : ∃ y, allT aSet l n = y := ⟨_, rfl⟩
      have HNX := Lib.hid (next_any (aSt k) g wr HSk.out p1.1 (by omega) (by omega) l hl n hn)
      rw [p4, p5] at HNX
      have HTR := Lib.hid (fun (W : World) (B : Nat) (h : Rd W B 1 (some ⟨bs, 0, none⟩) 8 (aSet.map Value.bool)) => truth_any 3 100 l n aSet _ 8 8 B W h (by omega) (by omega) (by omega) y hy)
      have HFD := Lib.hid (fun (W : World) (h : MapAt (fun b => b = g) W g (aSt k)) => feed_any (aSt k) g (truthO 3 y) W h p1 (by omega) p6)
      have hnx : aSt (k + 1) = feedS (aSt k) (oYes (truthO 3 y)) (oNo (truthO 3 y)) := by
        rw [(truth_yes 3 y).1, (truth_yes 3 y).2]
        show aStep (aSt k) = _
        rw [aStep, hl, hn, hy]
      have HN := Lib.hid hnx
      clear p1 p2 p3 p4 p5 p6 p7 hl hn hy hnx
      go_wp2_with fail
      refine HNX.out.mono ?_
      rintro e w2 ⟨rfl, hb2⟩
      have HS2 := Lib.hid (HSk.out.below hb2)
      have HR2 := Lib.hid (HRk.out.below hb2 (by have := hgr.size; omega))
      have hgr2 := one_below hgr hb2
      clear hb2 HSk HRk hgr HNX
      unfold reqV
      go_wp2_with fail
      have HR3 := Lib.hid (HR2.out.alloc' (.cells #[.int .i64 3, .int .i64 (100 + (l : Int)), .int .i64 n, .int .i64 0, .int .i64 0] 31) (by have := hgr2.size; omega))
      refine (HTR.out _ _ HR3.out).mono ?_
      rintro e w3 ⟨rfl, hb3⟩
      have hb3' : Below w2.heap.size w2 w3 := ext_one (by simpa using hb3)
      have HS3 := Lib.hid (HS2.out.below hb3')
      have hgr3 := one_below hgr2 hb3'
      clear hb3 hb3' HS2 HR2 HR3 HTR
      go_wp2_with fail
      refine (HFD.out _ HS3.out).mono ?_
      rintro e w4 ⟨rfl, hS4, hg4⟩
      have HS4 := Lib.hid (show MapAt (fun b => b = g) w4 g (aSt (k + 1)) by rw [HN.out]; exact hS4)
      have hgr4 := one_trans hgr3 hg4
      clear hS4 hg4 HS3 HFD
      go_wp2_with fail
      exact ⟨⟨k + 1, by omega, by go_num, HS4.out, hgr4⟩, by simp [intOf]; omega⟩
    · obtain rfl : k = 5 := by omega
      have hbe : Below w.heap.size w wr := hbw.grown hgr hbw.size (fun i hi => by injection hi with hi; omega)
      have hSP := spans_any (aSt 5) g wr HSk.out ⟨by omega, by omega, by omega, by omega, by omega, by omega⟩ (by omega) [(2, 2), (5, 1), (1, 2)] z4 3 rfl
      have HSP := Lib.hid hSP
      have HQU := Lib.hid (fun (W : World) (h : MapAt (fun b => b = g) W g (aSt 5)) => queries_any (aSt 5) g W h)
      rw [z3] at HQU
      clear hSP z1 z2 z3 z4 z5 z6 z7 hgr
      go_wp2_with fail
      refine HSP.out.mono ?_
      rintro e w2 ⟨A2, c2, rfl, hown2, hb2⟩
      have HR2 := Lib.hid (Rd.of_own hown2)
      have HS2 := Lib.hid (HSk.out.below hb2)
      have hbe2 := ext_trans hbe hb2
      clear hown2 hb2 HSk
      go_wp2_with fail
      refine (HQU.out _ HS2.out).mono ?_
      rintro e w3 ⟨rfl, rfl⟩
      go_wp2_with fail
      refine (same_any [(2, 2), (5, 1), (1, 2)] A2 (some ⟨w2.heap.size, 0, none⟩) 3 c2 3 (w2.heap.size + 1) _ ((HR2.out.alloc' _ (Nat.le_refl _)).more (Nat.le_succ _)) (Rd.lit rfl (Nat.lt_succ_self _)) (by omega)).mono ?_
      rintro e w4 ⟨rfl, hb4⟩
      go_wp2
      go_ret
      exact ⟨rfl, ext_alloc' hbe2 (by simpa using hb4)⟩
theorem feed_nil (o : Ocv) (w : World) : Calls Try.prog 17 #[.pointer none, ocV o] w fun e w' => e = .returned (.int .i64 13) ∧ Below w.heap.size w w' := by
  obtain ⟨v, f, ex, dA, dn, dc, cd, lv, mo, nx, oA, on, oc⟩ := o
  go_enter Try.func17, Try.ntmps17
  go_wp2
  go_ret
  exact ⟨rfl, (Below.refl _ _).alloc (Nat.le_refl _) _⟩
set_option maxRecDepth 100000 in
set_option maxHeartbeats 2000000 in
theorem lawNone_any (w : World) : Calls Try.prog 5 #[] w fun e w' => e = .returned (.bool true) ∧ Below w.heap.size w w' := by
  have HAW := Lib.hid awake_any
  go_enter Try.func5, Try.ntmps5
  go_wp2_with fail
  refine (next_nil _).mono ?_
  rintro e w1 ⟨rfl, hb1⟩
  unfold reqV
  go_wp2_with fail
  refine (spans_nil _).mono ?_
  rintro e w2 ⟨rfl, rfl⟩
  have hbw := ext_alloc hb1 (.cells #[.int .i64 0, .int .i64 0, .int .i64 0, .int .i64 0, .int .i64 0] 31)
  go_wp2_with fail
  refine (HAW.out _).mono ?_
  rintro e w3 ⟨rfl, hb3⟩
  have hbw3 := ext_trans hbw hb3
  go_wp2_with fail
  refine (feed_nil ⟨0, 0, 0, none, 0, 0, 0, 0, false, 0, none, 0, 0⟩ _).mono ?_
  rintro e w4 ⟨rfl, hb4⟩
  have hbw4 := ext_trans hbw3 hb4
  go_wp2_with fail
  refine (queries_nil _).mono ?_
  rintro e w5 ⟨rfl, rfl⟩
  go_wp2_with fail
  refine (mnew_no 0 0 1 1 _ (by decide) (by omega)).mono ?_
  rintro e w6 ⟨rfl, hb6⟩
  go_wp2
  go_ret
  exact ⟨rfl, ext_trans hbw4 hb6⟩
end Go.Proofs.Ytdkkfahnkenplaa

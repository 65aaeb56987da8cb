/- Layer 12: contract of the reference's Close. -/
import Derived.Test.YtebeaghombjooaaRf
set_option linter.unusedVariables false
set_option linter.unusedSimpArgs false
namespace Go.Proofs.Ytebeaghombjooaa
open Go.RowKit

theorem pushR_last (l : List Rg) (f e : Int) (h : f < e) : ∃ a r, pushR l f e = a ++ [r] ∧ r.1 + r.2 = e := by
  rw [pushR, if_neg (by omega)]
  split
  · rename_i r hr
    by_cases hm : r.1 + r.2 = f
    · rw [if_pos hm]; exact ⟨_, _, rfl, by simp only; omega⟩
    · rw [if_neg hm]; exact ⟨_, _, rfl, by simp only; omega⟩
  · exact ⟨_, _, rfl, by simp only; omega⟩
theorem closeTo_len (f : Nat → Bool) (k : Nat) : (closeTo f k).length ≤ k := by
  induction k with
  | zero => simp [closeTo]
  | succ k ih =>
    rw [closeTo]
    split
    · have := (pushR_length (closeTo f k) k (k + 1)).2; omega
    · omega
theorem close_no (f : Nat → Bool) (k : Nat) (h : f k = false) : closeTo f (k + 1) = closeTo f k := by rw [closeTo, h]; rfl
theorem close_in (f : Nat → Bool) (k : Nat) (h0 : 0 < k) (h1 : f (k - 1) = true) (h : f k = true) : ∃ a l1 l2, closeTo f k = a ++ [(l1, l2)] ∧ closeTo f (k + 1) = a ++ [(l1, l2 + 1)] := by
  obtain ⟨j, rfl⟩ : ∃ j, k = j + 1 := ⟨k - 1, by omega⟩
  rw [show j + 1 - 1 = j by omega] at h1
  have e1 : closeTo f (j + 1) = pushR (closeTo f j) j (j + 1) := by rw [closeTo, if_pos h1]
  obtain ⟨a, ⟨l1, l2⟩, hp, hs⟩ := pushR_last (closeTo f j) j (j + 1) (by omega)
  simp only at hs
  refine ⟨a, l1, l2, by rw [e1, hp], ?_⟩
  rw [closeTo, if_pos h, e1, hp, pushR, if_neg (by omega), List.getLast?_concat, List.dropLast_concat]
  simp only
  rw [if_pos (by omega)]
  have e2 : l2 + (((j + 1 : Nat) : Int) + 1 - ((j + 1 : Nat) : Int)) = l2 + 1 := by omega
  rw [e2]
theorem close_new (f : Nat → Bool) (k : Nat) (hk : k ≤ 65536) (h1 : k = 0 ∨ f (k - 1) = false) (h : f k = true) : closeTo f (k + 1) = closeTo f k ++ [((k : Int), (1 : Int))] := by
  have one : ((k : Int) + 1 - (k : Int)) = 1 := by omega
  rw [closeTo, if_pos h, pushR, if_neg (by omega), one]
  by_cases h0 : k = 0
  · subst h0; rfl
  · have h1 : f (k - 1) = false := h1.resolve_left h0
    obtain ⟨j, rfl⟩ : ∃ j, k = j + 1 := ⟨k - 1, by omega⟩
    rw [show j + 1 - 1 = j by omega] at h1
    have e1 : closeTo f (j + 1) = closeTo f j := close_no f j h1
    rw [e1]
    obtain ⟨⟨_, hn⟩, _⟩ := closeTo_spec f j (by omega)
    by_cases hl : closeTo f j = []
    · rw [hl]; rfl
    · obtain ⟨a, r, ha⟩ := list_snoc _ hl
      rw [ha, nxt_snoc] at hn
      rw [ha, List.getLast?_concat]
      simp only
      rw [if_neg (by omega)]

theorem flag_cells {w : World} {B N : Nat} {A : Option Addr} {f : Nat → Bool} (h : Rd w B 1 A N (flagCells f N)) (hN : 0 < N) : ∃ b off, A = some ⟨b, off, none⟩ ∧ b < B ∧ ∀ k, k < N → w.cell? ⟨b, off + k, none⟩ = some (.bool (f k)) := by
  obtain ⟨b, off, e, hb, hc⟩ := h.2 hN
  exact ⟨b, off, e, hb, fun k hk => hc k _ (flag_get f N k hk)⟩
/-- A list that is returned as a row of the call's own. -/
def RetR (w : World) (l : List Rg) (e : Ending) (w' : World) : Prop := ∃ v, e = .returned v ∧ w'.ownsRow w.heap.size 37 2 v l.length (rgCells l) ∧ Below w.heap.size w w'

set_option maxRecDepth 10000 in
set_option maxHeartbeats 4000000 in
theorem close_any (f : Nat → Bool) (A : Option Addr) (c B N : Nat) (w : World) (hr : Rd w B 1 A N (flagCells f N)) (h0 : 0 < N) (hN : N ≤ 65536) :
    Calls Try.prog 33 #[.slice A N c] w (RetR w (closeTo f N)) := by
  have hr := hr.fits (by decide)
  obtain ⟨b, off, rfl, hbl, hcell⟩ := flag_cells hr h0
  have HC := Lib.hid hcell
  clear hr hcell
  go_enter Try.func33, Try.ntmps33
  go_wp2
  go_loopw [3, 4] (fun v i wr => ∃ k : Nat, k ≤ N ∧ i = .int .i64 k ∧ wr.ownsRow w.heap.size 37 2 v (closeTo f k).length (rgCells (closeTo f k)) ∧ Below w.heap.size w wr) (fun _ i _ => N - (intOf i).toNat)
  case atStart => exact ⟨0, by omega, rfl, World.ownsRow_nil _ _ _ _, Below.refl _ _⟩
  case round =>
    obtain ⟨k, hk, rfl, hown, hbw⟩ := hrel
    by_cases hlt : k < N
    · have d0 : wr.cell? ⟨b, off + k, none⟩ = some (.bool (f k)) := (hbw.cell (p := ⟨b, off + k, none⟩) hbl).trans (HC.out k hlt)
      have hlen := closeTo_len f k
      have hsz := hbw.size
      obtain ⟨q, hq⟩ : ∃ q, f k = q := ⟨_, rfl⟩
      rw [hq] at d0
      cases q
      · have hnx := close_no f k hq
        have HNX := Lib.hid hnx
        have HO := Lib.hid hown
        have HB := Lib.hid hbw
        clear hnx hown hq hbw
        go_wp2
        exact ⟨⟨k + 1, by omega, by go_num, by rw [HNX.out]; exact HO.out, HB.out⟩, by simp [intOf]; omega⟩
      · by_cases hk0 : k = 0
        · have hnx := close_new f k (by omega) (.inl hk0) hq
          have hrow : ∀ (v1 : Value) (w1 : World), w1.ownsRow w.heap.size 37 2 v1 ((closeTo f k).length + 1) (rgCells (closeTo f k) ++ [.int .i64 (k : Int), .int .i64 1]) → w1.ownsRow w.heap.size 37 2 v1 (closeTo f (k + 1)).length (rgCells (closeTo f (k + 1))) := by
            intro v1 w1 h
            rw [hnx, rgCells_append, List.length_append]; exact h
          have HROW := Lib.hid hrow
          have HB := Lib.hid hbw
          have HBS := Lib.hid (fun (o1 : Obj) => (show w.heap.size ≤ (wr.alloc o1).heap.size from by simp; omega))
          have HO := Lib.hid hown
          have hd : decide (0 < (k : Int)) = false := by simp only [decide_eq_false_iff_not]; omega
          have hd2 : decide (0 < k) = false := by simp only [decide_eq_false_iff_not]; omega
          clear hnx hrow hq hown hbw hk0
          go_wp2_with (at_builtin; refine wpList_appR (.tmp 35) (.tmp 38) 22 w.heap.size 37 _ 2 16 _ (closeTo f k).length (rgCells (closeTo f k)) (wr.heap.size + 1) (some ⟨wr.heap.size, 0, none⟩) 1 1 _ Try.underlying22 rgInfo rfl (by decide) rfl rfl rfl rfl (own_box HO.out _) (Rd.lit rfl (Nat.lt_succ_self _)) (two_one _ _) (by omega) (by omega) (HBS.out _) ?_; intro v1 w1 hown1 hg1 hb1)
          exact ⟨⟨k + 1, by omega, by go_num, HROW.out _ _ hown1, (HB.out.alloc hsz _).trans hb1⟩, by simp [intOf]; omega⟩
        · have d1 : wr.cell? ⟨b, off + (k - 1), none⟩ = some (.bool (f (k - 1))) := (hbw.cell (p := ⟨b, off + (k - 1), none⟩) hbl).trans (HC.out (k - 1) (by omega))
          obtain ⟨j, rfl⟩ : ∃ j, k = j + 1 := ⟨k - 1, by omega⟩
          rw [show j + 1 - 1 = j by omega] at d1
          have f3 : IntKind.i64.wrap ((j : Int) + 1 - 1) = (j : Int) := by rw [IntWalk.i64_in _ ⟨by omega, by omega⟩]; omega
          obtain ⟨q2, hq2⟩ : ∃ q, f j = q := ⟨_, rfl⟩
          rw [hq2] at d1
          have hd : decide (0 < (j : Int) + 1) = true := by simp only [decide_eq_true_eq]; omega
          cases q2
          · have hnx := close_new f (j + 1) (by omega) (.inr (by simpa using hq2)) hq
            have hrow : ∀ (v1 : Value) (w1 : World), w1.ownsRow w.heap.size 37 2 v1 ((closeTo f (j + 1)).length + 1) (rgCells (closeTo f (j + 1)) ++ [.int .i64 ((j : Int) + 1), .int .i64 1]) → w1.ownsRow w.heap.size 37 2 v1 (closeTo f (j + 1 + 1)).length (rgCells (closeTo f (j + 1 + 1))) := by
              intro v1 w1 h
              rw [hnx, rgCells_append, List.length_append]; exact h
            have HROW := Lib.hid hrow
            have HB := Lib.hid hbw
            have HBS := Lib.hid (fun (o1 : Obj) => (show w.heap.size ≤ (wr.alloc o1).heap.size from by simp; omega))
            have HO := Lib.hid hown
            clear hnx hrow hq hq2 hown hbw
            go_wp2_with (at_builtin; refine wpList_appR (.tmp 35) (.tmp 38) 22 w.heap.size 37 _ 2 16 _ (closeTo f (j + 1)).length (rgCells (closeTo f (j + 1))) (wr.heap.size + 1) (some ⟨wr.heap.size, 0, none⟩) 1 1 _ Try.underlying22 rgInfo rfl (by decide) rfl rfl rfl rfl (own_box HO.out _) (Rd.lit rfl (Nat.lt_succ_self _)) (two_one _ _) (by omega) (by omega) (HBS.out _) ?_; intro v1 w1 hown1 hg1 hb1)
            exact ⟨⟨j + 1 + 1, by omega, by go_num, HROW.out _ _ hown1, (HB.out.alloc hsz _).trans hb1⟩, by simp [intOf]; omega⟩
          · obtain ⟨a, l1, l2, ha, hnx⟩ := close_in f (j + 1) (by omega) (by simpa using hq2) hq
            have hmem := (closeTo_spec f (j + 1) (by omega)).1.mem (l1, l2) (by rw [ha]; simp)
            simp only at hmem
            obtain ⟨m1, m2, m3, m4⟩ := hmem
            rw [ha] at hown hlen
            obtain ⟨m, hm⟩ : ∃ m, a.length = m := ⟨_, rfl⟩
            have hla : (a ++ [((l1, l2) : Rg)]).length = m + 1 := by simp [hm]
            have hla2 : (a ++ [((l1, l2 + 1) : Rg)]).length = m + 1 := by simp [hm]
            rw [hla] at hown hlen
            obtain ⟨g, cap, hv, hgb, hgl⟩ := hown.form (by omega)
            subst hv
            have hset : (rgCells (a ++ [((l1, l2) : Rg)])).set (m * 2 + 1) (.int .i64 (l2 + 1)) = rgCells (a ++ [(l1, l2 + 1)]) := by
              rw [← hm]; exact rg_set_last a (l1, l2) _
            have hc1 := (rgCells_get (a ++ [((l1, l2) : Rg)]) m (by rw [hla]; omega)).2
            have hgm : (a ++ [((l1, l2) : Rg)])[m]'(by rw [hla]; omega) = (l1, l2) := by subst hm; simp
            rw [hgm] at hc1
            simp only at hc1
            have c1 : wr.cell? ⟨g, m * 2 + 1, none⟩ = some (.int .i64 l2) := by rw [hown.cellAt _ (by omega)]; exact hc1
            have dz : ∀ i, wr.frozen? ⟨g, i, none⟩ = false := fun i => hown.frozenAt i
            have f4 : IntKind.i64.wrap ((m : Int) + 1 - 1) = (m : Int) := by rw [IntWalk.i64_in _ ⟨by omega, by omega⟩]; omega
            have HSET := Lib.hid hset
            have HNX := Lib.hid hnx
            have HB := Lib.hid hbw
            have HO := Lib.hid hown
            have HLA := Lib.hid hla2
            have HGB := Lib.hid hgb
            clear hset hnx hq hq2 hown hbw ha hm hla hla2 hc1 hgm hgb
            go_wp2
            refine ⟨⟨j + 1 + 1, by omega, by go_num, ?_, HB.out.setCell (p := ⟨g, m * 2 + 1, none⟩) HGB.out _⟩, by simp [intOf]; omega⟩
            have hst := (HO.out.stored (m * 2 + 1) (.int .i64 (l2 + 1))).1
            rw [HSET.out] at hst
            rw [HNX.out, HLA.out]
            exact hst
    · obtain rfl : k = N := by omega
      go_wp2
      go_ret
      exact ⟨_, rfl, hown, hbw⟩
end Go.Proofs.Ytebeaghombjooaa

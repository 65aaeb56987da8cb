/- Layer 5: contract of the reference's Valid. -/
import Derived.Test.YthgapllfjllnfaaSetA
set_option linter.unusedVariables false
set_option linter.unusedSimpArgs false
namespace Go.Proofs.Ythgapllfjllnfaa
open Go.RowKit

theorem st_get0 (l : List (Int × Int)) (k : Nat) (h : k < l.length) : (stCells l)[k * 2]? = some (.int .i64 (l[k]).1) ∧ (stCells l)[k * 2 + 1]? = some (.int .i64 (l[k]).2) := by
  induction l generalizing k with
  | nil => simp at h
  | cons s l ih =>
    rcases k with _ | k
    · simp [stCells, stRow]
    · have := ih k (by simpa using h)
      rw [show (k + 1) * 2 = k * 2 + 2 by omega, show k * 2 + 2 + 1 = k * 2 + 1 + 2 by omega]
      simpa [stCells, stRow] using this
theorem valid_mem (b p : Int) : validB b p = decide ((b, p) ∈ allL) := by
  rw [Bool.eq_iff_iff]
  simp only [validB, Bool.and_eq_true, decide_eq_true_eq, allL, List.mem_flatMap]
  constructor
  · rintro ⟨h, h1, h2⟩
    refine ⟨b, h, ?_⟩
    rcases (show p = 0 ∨ p = 1 ∨ p = 2 by omega) with rfl | rfl | rfl <;> simp
  · rintro ⟨c, hc, h⟩
    simp only [List.mem_cons, Prod.mk.injEq, List.not_mem_nil, or_false] at h
    rcases h with ⟨rfl, rfl⟩ | ⟨rfl, rfl⟩ | ⟨rfl, rfl⟩ <;> exact ⟨hc, by omega, by omega⟩

set_option maxHeartbeats 1000000 in
theorem refValid_any (b p : Int) (r : Bool) (hr : validB b p = r) (w : World) : Calls Try.prog 25 #[.agg #[.int .i64 b, .int .i64 p]] w fun e w' => e = .returned (.bool r) ∧ Below w.heap.size w w' := by
  rw [valid_mem] at hr
  have HR := Lib.hid hr; clear hr
  go_enter Try.func25, Try.ntmps25
  go_wp2_with fail
  refine (all_any _).mono ?_
  rintro e w1 ⟨A, c, rfl, hown, hb1⟩
  obtain ⟨q1, z1, l1⟩ := box_new hb1
  have hbw : Below w.heap.size w w1 := ext_alloc' (Below.refl _ w) (by simpa using hb1)
  have hR := Rd.of_own hown
  clear hb1 hown
  go_wp2
  go_loopw [4] (fun i wr => ∃ k : Nat, k ≤ 24 ∧ i = .int .i64 k ∧ (b, p) ∉ allL.take k ∧ Below w1.heap.size w1 wr) (fun i _ => 24 - (intOf i).toNat)
  case atStart => exact ⟨0, by omega, rfl, by simp, Below.refl _ _⟩
  case round =>
    obtain ⟨k, hk, rfl, hnot, hb2⟩ := hrel
    have HN := Lib.hid hnot; clear hnot
    have hbw2 : Below w.heap.size w wr := ext_trans hbw hb2
    by_cases hlt : k < 24
    · have hlt' : (k : Int) < 24 := by omega
      obtain ⟨q2, _, l2⟩ := box_keep q1 z1 l1 hb2
      have b0 : wr.cell? ⟨w.heap.size, 0, none⟩ = some (.int .i64 b) := q2 0
      have b1 : wr.cell? ⟨w.heap.size, 1, none⟩ = some (.int .i64 p) := q2 1
      clear q2
      obtain ⟨g, off, rfl, _, hc⟩ := (hR.below hb2 (Nat.le_refl _)).2 (by omega)
      have hl : k < allL.length := by rw [all_length]; exact hlt
      obtain ⟨e0, e1⟩ := st_get0 allL k hl
      have c0 := hc _ _ e0
      have c1 := hc _ _ e1
      obtain ⟨x, hx⟩ : ∃ x, (allL[k]).1 = x := ⟨_, rfl⟩
      obtain ⟨y, hy⟩ : ∃ y, (allL[k]).2 = y := ⟨_, rfl⟩
      rw [hx] at c0
      rw [hy, ← Nat.add_assoc] at c1
      have hxy : allL[k] = (x, y) := Prod.ext hx hy
      clear hc e0 e1 hx hy
      by_cases heq : x = b ∧ y = p
      · have hm : r = true := by
          rw [← HR.out, decide_eq_true_eq, ← heq.1, ← heq.2, ← hxy]; exact List.getElem_mem hl
        subst hm
        have h1 : (x == b) = true := by simpa using heq.1
        have h2 : (y == p) = true := by simpa using heq.2
        clear heq hxy
        go_wp2
        go_quiet (fail)
        go_wp2
        go_ret
        exact ⟨rfl, ext_drewN hbw2 _⟩
      · have hn : (b, p) ∉ allL.take (k + 1) := by
          rw [List.take_succ_eq_append_getElem hl, hxy]
          simp only [List.mem_append, List.mem_singleton, Prod.mk.injEq]
          rintro (h | ⟨rfl, rfl⟩)
          · exact HN.out h
          · exact heq ⟨rfl, rfl⟩
        have HN2 := Lib.hid hn; clear hn
        have h1 : ((x == b) && (y == p)) = false := by simpa using heq
        clear heq hxy
        rcases Bool.and_eq_false_iff.1 h1 with h2 | h2
        all_goals
          clear h1
          go_wp2
          go_quiet (fail)
          go_wp2
          exact ⟨⟨k + 1, by omega, by go_num, HN2.out, below_drewN hb2 _⟩, by simp [intOf]; omega⟩
    · obtain rfl : k = 24 := by omega
      have hm : r = false := by
        rw [← HR.out, decide_eq_false_iff_not]
        have := HN.out
        rwa [List.take_of_length_le (by rw [all_length]; exact Nat.le_refl _)] at this
      subst hm
      go_wp2
      go_ret
      exact ⟨rfl, hbw2⟩

end Go.Proofs.Ythgapllfjllnfaa

/- Layer 12: contracts of slices.Sort, Collect, Sorted, Compact at ints over rows of the call's own. -/
import Derived.Test.YtebeaghombjooaaRit
set_option linter.unusedVariables false
set_option linter.unusedSimpArgs false
namespace Go.Proofs.Ytebeaghombjooaa
open Go.RowKit Go.Shelf Go.Sort

theorem sort_any (v : Value) (n base : Nat) (xs : List Int) (w : World) (hown : w.ownsRow base 3 1 v n (i64s xs)) (hn : n ≤ 1000000) :
    Calls Try.prog 45 #[v] w fun e w' => e = .returned (.tuple #[]) ∧ w'.ownsRow base 3 1 v n (i64s (sortL xs)) ∧ w.grownBy w' v.ownBlock := by
  have hl : xs.length = n := by have := hown.1; simpa using this
  rcases hown.2 with ⟨rfl, rfl⟩ | ⟨g, cap, cur, rfl, hbg, hgg, hnc, hcm, hcs, htake⟩
  · have hx : xs = [] := List.eq_nil_of_length_eq_zero hl
    subst hx
    refine (Any.slices_Sort_int_none Try.lays189 none 0 w).mono ?_
    rintro e w' ⟨rfl, rfl⟩
    exact ⟨rfl, by simpa [sortL] using hown, World.grownBy.refl _ _⟩
  · subst hl
    refine (Any.slices_Sort_int Try.lays189 g 0 cap xs w (holds_of_blockI hgg (by simpa using htake)) (Array.getElem?_eq_some_iff.1 hgg).1 (by omega)).mono ?_
    rintro e w' ⟨rfl, k, os, rfl⟩
    refine ⟨rfl, ?_, grownBy_sortedI _⟩
    have := ownsRow_sortedI (n := k) (os := os) (ts := xs.mergeSort fun x y => decide (x ≤ y)) (ss := xs) (by simp) hbg hgg hnc hcm hcs
    exact this

theorem collect_any (Bs cap len : Nat) (A : Option Addr) (zs : List Int) (hlen : len ≤ 1000000) (w : World) (hBs : Bs < w.heap.size) (hc : w.cell? ⟨Bs, 0, none⟩ = some (.slice A len cap)) (hI : Rd w w.heap.size 1 A len (i64s zs)) :
    Calls Try.prog 46 #[seqV Bs] w fun e W' => ∃ v, e = .returned v ∧ W'.ownsRow w.heap.size 3 1 v zs.length (i64s zs) ∧ Below w.heap.size w W' := by
  have HA := Lib.hid ((callsIn_wide (n := 3)).1 (appendSeq_in Fence.wide 3 trivial trivial rfl (by omega) Bs cap len A zs hlen w hBs hc hI))
  clear hc hI
  go_enter Try.func46, Try.ntmps46
  go_wp2_with fail
  refine HA.out.mono ?_
  rintro e w1 ⟨v, rfl, hown, hb⟩
  obtain ⟨A1, c1, rfl, _, _⟩ := own_form hown
  have HO := Lib.hid hown
  clear hown
  go_wp2
  go_ret
  exact ⟨_, rfl, HO.out, hb⟩

theorem sorted_any (Bs cap len : Nat) (A : Option Addr) (zs : List Int) (hlen : len ≤ 1000000) (w : World) (hBs : Bs < w.heap.size) (hc : w.cell? ⟨Bs, 0, none⟩ = some (.slice A len cap)) (hI : Rd w w.heap.size 1 A len (i64s zs)) :
    Calls Try.prog 36 #[seqV Bs] w fun e W' => ∃ v, e = .returned v ∧ W'.ownsRow w.heap.size 3 1 v zs.length (i64s (sortL zs)) ∧ Below w.heap.size w W' := by
  have HA := Lib.hid (collect_any Bs cap len A zs hlen w hBs hc hI)
  have hzl : zs.length ≤ 1000000 := by rw [hI.ilen]; exact hlen
  clear hc hI
  go_enter Try.func36, Try.ntmps36
  go_wp2_with fail
  refine HA.out.mono ?_
  rintro e w1 ⟨v, rfl, hown, hb⟩
  have HS := Lib.hid (sort_any v zs.length w.heap.size zs w1 hown hzl)
  have HRB := Lib.hid (fun (w2 : World) (hg : w1.grownBy w2 v.ownBlock) => below_row hb hown hg (Nat.le_refl _) hb.size)
  obtain ⟨A1, c1, rfl, _, _⟩ := own_form hown
  clear hown hb
  go_wp2_with fail
  refine HS.out.mono ?_
  rintro e w2 ⟨rfl, hown2, hg2⟩
  have HO := Lib.hid hown2
  have hb2 := HRB.out w2 hg2
  clear hown2
  go_wp2
  go_ret
  exact ⟨_, rfl, HO.out, hb2⟩

/-- What slices.Compact hands back: the head of the same row. -/
theorem compact_any (v : Value) (n base : Nat) (xs : List Int) (w : World) (hown : w.ownsRow base 3 1 v n (i64s xs)) (hn : n ≤ 1000000) :
    Calls Try.prog 38 #[v] w fun e w' => (∃ A n' c', e = .returned (.slice A n' c') ∧ n' ≤ n ∧ Rd w' w'.heap.size 1 A n' (i64s (Lib.compact xs))) ∧ w.grownBy w' v.ownBlock := by
  have hl : xs.length = n := by have := hown.1; simpa using this
  rcases hown.2 with ⟨rfl, rfl⟩ | ⟨g, cap, cur, rfl, hbg, hgg, hnc, hcm, hcs, htake⟩
  · have hx : xs = [] := List.eq_nil_of_length_eq_zero hl
    subst hx
    refine (Any.slices_Compact_int_empty Try.laysCompact none 0 w).mono ?_
    rintro e w' ⟨rfl, rfl⟩
    exact ⟨⟨none, 0, 0, rfl, Nat.le_refl _, Rd.nil_⟩, World.grownBy.refl _ _⟩
  · subst hl
    refine (Any.slices_Compact_int Try.laysCompact g 0 cap xs w (holds_of_blockI hgg (by simpa using htake)) (by omega) hnc).mono ?_
    rintro e w' ⟨rfl, k, rfl⟩
    have hcl : (Lib.compact xs).length ≤ xs.length := by
      unfold Lib.compact Lib.compactUpTo
      rw [List.length_map]
      exact Nat.le_trans (List.length_filter_le _ _) (by simp)
    have hg := grownBy_sortedI (w := w) (g := g) (n := k) (os := #[]) (Lib.compact xs ++ List.replicate (xs.length - (Lib.compact xs).length) 0).toArray
    have ho := ownsRow_sortedI (n := k) (os := #[]) (ts := Lib.compact xs ++ List.replicate (xs.length - (Lib.compact xs).length) 0) (ss := xs) (by simp; omega) hbg hgg hnc hcm hcs
    simp only [grow_empty] at hg ho
    refine ⟨⟨_, _, _, rfl, hcl, ?_⟩, hg⟩
    have hr := (Rd.of_own ho).take hcl
    have e : (i64s (Lib.compact xs ++ List.replicate (xs.length - (Lib.compact xs).length) 0)).take ((Lib.compact xs).length * 1) = i64s (Lib.compact xs) := by
      rw [Nat.mul_one, i64s, List.map_append]
      exact List.take_left' (by simp)
    rw [e] at hr
    exact hr

/-! ### plain: compacting a sorted list -/
theorem compact_mem (xs : List Int) (x : Int) : x ∈ Lib.compact xs ↔ x ∈ xs := by
  have key : ∀ m, m ≤ xs.length → (x ∈ Lib.compactUpTo xs.toArray m ↔ x ∈ xs.take m) := by
    intro m
    induction m with
    | zero => intro _; simp [Lib.compactUpTo]
    | succ m ih =>
      intro hm
      have hx : xs.toArray[m]! = xs[m] := by simp [getElem!_pos, show m < xs.length by omega]
      rw [Lib.compactUpTo_succ, List.mem_append, ih (by omega), List.take_succ_eq_append_getElem (by omega), List.mem_append]
      by_cases hk : Lib.keeps xs.toArray m = true
      · rw [if_pos hk, hx]
      · rw [if_neg hk]
        have hk2 : ¬ (m = 0 ∨ xs.toArray[m]! ≠ xs.toArray[m - 1]!) := by simpa [Lib.keeps] using hk
        have hm0 : m ≠ 0 := fun h => hk2 (.inl h)
        have heq : xs.toArray[m]! = xs.toArray[m - 1]! := by
          rcases Classical.em (xs.toArray[m]! = xs.toArray[m - 1]!) with h | h
          · exact h
          · exact absurd (.inr h) hk2
        have hx1 : xs.toArray[m - 1]! = xs[m - 1]'(by omega) := by simp [getElem!_pos, show m - 1 < xs.length by omega]
        rw [hx, hx1] at heq
        constructor
        · rintro (h | h)
          · exact .inl h
          · cases h
        · rintro (h | h)
          · exact .inl h
          · left
            simp only [List.mem_singleton] at h
            rw [h, heq]
            exact List.mem_iff_getElem.2 ⟨m - 1, by simp; omega, by simp⟩
  have := key xs.length (Nat.le_refl _)
  rw [List.take_length] at this
  exact this
theorem compact_pair (xs : List Int) (h : xs.Pairwise (fun x y => x ≤ y)) : (Lib.compact xs).Pairwise (fun x y => x < y) := by
  have key : ∀ m, m ≤ xs.length → (Lib.compactUpTo xs.toArray m).Pairwise (fun x y => x < y) ∧ (∀ x ∈ Lib.compactUpTo xs.toArray m, ∃ j, ∃ hj : j < xs.length, j < m ∧ x = xs[j]) := by
    intro m
    induction m with
    | zero => intro _; exact ⟨by simp [Lib.compactUpTo], by simp [Lib.compactUpTo]⟩
    | succ m ih =>
      intro hm
      obtain ⟨i1, i2⟩ := ih (by omega)
      have hx : xs.toArray[m]! = xs[m] := by simp [getElem!_pos, show m < xs.length by omega]
      rw [Lib.compactUpTo_succ]
      by_cases hk : Lib.keeps xs.toArray m = true
      · rw [if_pos hk, hx]
        refine ⟨List.pairwise_append.2 ⟨i1, by simp, ?_⟩, ?_⟩
        · intro a ha b hb
          simp only [List.mem_singleton] at hb
          subst hb
          obtain ⟨j, hj, hjm, rfl⟩ := i2 a ha
          have hk2 : m = 0 ∨ xs.toArray[m]! ≠ xs.toArray[m - 1]! := by simpa [Lib.keeps] using hk
          have hne := hk2.resolve_left (by omega)
          have hx1 : xs.toArray[m - 1]! = xs[m - 1]'(by omega) := by simp [getElem!_pos, show m - 1 < xs.length by omega]
          rw [hx, hx1] at hne
          have l1 : xs[m - 1]'(by omega) ≤ xs[m] := List.pairwise_iff_getElem.1 h (m - 1) m (by omega) (by omega) (by omega)
          have l2 : xs[j] ≤ xs[m - 1]'(by omega) := by
            rcases Nat.lt_or_eq_of_le (show j ≤ m - 1 by omega) with e | e
            · exact List.pairwise_iff_getElem.1 h j (m - 1) hj (by omega) e
            · subst e; exact Int.le_refl _
          omega
        · intro x hxm
          rcases List.mem_append.1 hxm with hxm | hxm
          · obtain ⟨j, hj, hjm, rfl⟩ := i2 x hxm; exact ⟨j, hj, by omega, rfl⟩
          · simp only [List.mem_singleton] at hxm; exact ⟨m, by omega, by omega, hxm⟩
      · rw [if_neg hk, List.append_nil]
        exact ⟨i1, fun x hxm => by obtain ⟨j, hj, hjm, rfl⟩ := i2 x hxm; exact ⟨j, hj, by omega, rfl⟩⟩
  exact (key xs.length (Nat.le_refl _)).1
end Go.Proofs.Ytebeaghombjooaa

/- Layer 12, in plain words: what the sweep over the sorted cuts makes. No program. -/
import Derived.Test.YtebeaghombjooaaRi
set_option linter.unusedVariables false
set_option linter.unusedSimpArgs false
namespace Go.Proofs.Ytebeaghombjooaa
open Go.RowKit

def endsL (l : List Rg) : List Int := l.flatMap fun r => [r.1, r.1 + r.2]
def cutsL (a b : List Rg) : List Int := [0, 65536] ++ endsL a ++ endsL b
def sortL (l : List Int) : List Int := l.mergeSort fun x y => decide (x ≤ y)
theorem endsL_snoc (l : List Rg) (k : Nat) (hk : k < l.length) : endsL (l.take (k + 1)) = endsL (l.take k) ++ [l[k].1, l[k].1 + l[k].2] := by
  rw [List.take_succ_eq_append_getElem hk, endsL, List.flatMap_append]; simp [endsL]
theorem endsL_len (l : List Rg) : (endsL l).length = l.length * 2 := by
  induction l with
  | nil => rfl
  | cons r t ih => simp only [endsL, List.flatMap_cons, List.length_append, List.length_cons, List.length_nil] at ih ⊢; omega
theorem sortL_mem (l : List Int) (x : Int) : x ∈ sortL l ↔ x ∈ l := List.mem_mergeSort
theorem sortL_len (l : List Int) : (sortL l).length = l.length := List.length_mergeSort _
theorem sortL_pair (l : List Int) : (sortL l).Pairwise (fun x y => x ≤ y) := by
  have h := List.pairwise_mergeSort (le := fun (x y : Int) => decide (x ≤ y)) (fun a b c h1 h2 => by simp only [decide_eq_true_eq] at *; omega) (fun a b => by simp only [Bool.or_eq_true, decide_eq_true_eq]; omega) l
  exact h.imp fun h => by simpa using h
/-- element k of a sorted list of cuts -/
def cut (S : List Int) (k : Nat) : Int := S.getD k 0
theorem cut_eq (S : List Int) (k : Nat) (h : k < S.length) : cut S k = S[k] := by simp [cut, List.getD, List.getElem?_eq_getElem h]
theorem cut_mono (l : List Int) (i j : Nat) (hij : i ≤ j) (hj : j < (sortL l).length) : cut (sortL l) i ≤ cut (sortL l) j := by
  rw [cut_eq _ _ (by omega), cut_eq _ _ hj]
  rcases Nat.lt_or_eq_of_le hij with h | h
  · exact List.pairwise_iff_getElem.1 (sortL_pair l) i j (by omega) hj h
  · subst h; exact Int.le_refl _
theorem cut_mem (l : List Int) (x : Int) (h : x ∈ l) : ∃ i, i < (sortL l).length ∧ cut (sortL l) i = x := by
  obtain ⟨i, hi, e⟩ := List.getElem_of_mem ((sortL_mem l x).2 h)
  exact ⟨i, hi, by rw [cut_eq _ _ hi, e]⟩
theorem cut_in (l : List Int) (k : Nat) (h : k < (sortL l).length) : cut (sortL l) k ∈ l := by
  rw [cut_eq _ _ h, ← sortL_mem]
  exact List.getElem_mem _
/-- No member of the list lies strictly between two neighbours. -/
theorem cut_gap (l : List Int) (k : Nat) (hk : k + 1 < (sortL l).length) (x : Int) (hx : x ∈ l) : x ≤ cut (sortL l) k ∨ cut (sortL l) (k + 1) ≤ x := by
  obtain ⟨i, hi, rfl⟩ := cut_mem l x hx
  by_cases h : i ≤ k
  · exact .inl (cut_mono l i k h (by omega))
  · exact .inr (cut_mono l (k + 1) i (by omega) hi)
theorem in_const (a : List Rg) (l : List Int) (k : Nat) (hk : k + 1 < (sortL l).length) (h : ∀ r ∈ a, r.1 ∈ l ∧ r.1 + r.2 ∈ l) (x : Int) (h1 : cut (sortL l) k ≤ x) (h2 : x < cut (sortL l) (k + 1)) : inL a x = inL a (cut (sortL l) k) := by
  unfold inL
  rw [Bool.eq_iff_iff, List.any_eq_true, List.any_eq_true]
  constructor
  · rintro ⟨r, hr, hi⟩
    obtain ⟨m1, m2⟩ := h r hr
    have g1 := cut_gap l k hk _ m1
    have g2 := cut_gap l k hk _ m2
    rw [inR_iff] at hi
    exact ⟨r, hr, (inR_iff _ _).2 (by omega)⟩
  · rintro ⟨r, hr, hi⟩
    obtain ⟨m1, m2⟩ := h r hr
    have g1 := cut_gap l k hk _ m1
    have g2 := cut_gap l k hk _ m2
    rw [inR_iff] at hi
    exact ⟨r, hr, (inR_iff _ _).2 (by omega)⟩
/-- The list behind k steps of the sweep. -/
def combTo (kp : Bool → Bool → Bool) (a b : List Rg) (S : List Int) : Nat → List Rg
  | 0 => []
  | k + 1 => if kp (inL a (cut S k)) (inL b (cut S k)) then pushR (combTo kp a b S k) (cut S k) (cut S (k + 1)) else combTo kp a b S k
theorem combTo_len (kp : Bool → Bool → Bool) (a b : List Rg) (S : List Int) (k : Nat) : (combTo kp a b S k).length ≤ k := by
  induction k with
  | zero => simp [combTo]
  | succ k ih =>
    rw [combTo]
    split
    · have := (pushR_length (combTo kp a b S k) (cut S k) (cut S (k + 1))).2; omega
    · omega
theorem ends_mem (a : List Rg) (r : Rg) (h : r ∈ a) : r.1 ∈ endsL a ∧ r.1 + r.2 ∈ endsL a := by
  unfold endsL
  exact ⟨List.mem_flatMap.2 ⟨r, h, by simp⟩, List.mem_flatMap.2 ⟨r, h, by simp⟩⟩
theorem ends_bd (a : List Rg) (hv : validL a = true) (x : Int) (h : x ∈ endsL a) : 0 ≤ x ∧ x ≤ 65536 := by
  unfold endsL at h
  obtain ⟨r, hr, hx⟩ := List.mem_flatMap.1 h
  have := validGo_mem 0 a (by omega) hv r hr
  simp at hx
  omega
theorem cuts_bd (a b : List Rg) (ha : validL a = true) (hb : validL b = true) (x : Int) (h : x ∈ cutsL a b) : 0 ≤ x ∧ x ≤ 65536 := by
  unfold cutsL at h
  rcases List.mem_append.1 h with h | h
  · rcases List.mem_append.1 h with h | h
    · simp at h; omega
    · exact ends_bd a ha x h
  · exact ends_bd b hb x h
theorem cut_bd (a b : List Rg) (ha : validL a = true) (hb : validL b = true) (k : Nat) (hk : k < (sortL (cutsL a b)).length) : 0 ≤ cut (sortL (cutsL a b)) k ∧ cut (sortL (cutsL a b)) k ≤ 65536 := cuts_bd a b ha hb _ (cut_in _ _ hk)
theorem cuts_len (a b : List Rg) : (sortL (cutsL a b)).length = 2 + a.length * 2 + b.length * 2 := by
  rw [sortL_len, cutsL, List.length_append, List.length_append, endsL_len, endsL_len]; rfl
theorem cut_first (a b : List Rg) (ha : validL a = true) (hb : validL b = true) : cut (sortL (cutsL a b)) 0 = 0 := by
  have hl := cuts_len a b
  obtain ⟨i, hi, e⟩ := cut_mem (cutsL a b) 0 (by simp [cutsL])
  have h1 := cut_mono (cutsL a b) 0 i (by omega) hi
  have h2 := cut_bd a b ha hb 0 (by omega)
  omega
theorem cut_last (a b : List Rg) (ha : validL a = true) (hb : validL b = true) : cut (sortL (cutsL a b)) ((sortL (cutsL a b)).length - 1) = 65536 := by
  have hl := cuts_len a b
  obtain ⟨i, hi, e⟩ := cut_mem (cutsL a b) 65536 (by simp [cutsL])
  have h1 := cut_mono (cutsL a b) i ((sortL (cutsL a b)).length - 1) (by omega) (by omega)
  have h2 := cut_bd a b ha hb ((sortL (cutsL a b)).length - 1) (by omega)
  omega
theorem combTo_spec (kp : Bool → Bool → Bool) (a b : List Rg) (ha : validL a = true) (hb : validL b = true) (k : Nat) (hk : k < (sortL (cutsL a b)).length) :
    PInv (combTo kp a b (sortL (cutsL a b)) k) (cut (sortL (cutsL a b)) k) ∧ ∀ x, inL (combTo kp a b (sortL (cutsL a b)) k) x = (decide (0 ≤ x ∧ x < cut (sortL (cutsL a b)) k) && kp (inL a x) (inL b x)) := by
  induction k with
  | zero =>
    rw [cut_first a b ha hb]
    refine ⟨PInv.nil (by omega), fun x => ?_⟩
    have : decide (0 ≤ x ∧ x < (0 : Int)) = false := by simp only [decide_eq_false_iff_not]; omega
    rw [this]; rfl
  | succ k ih =>
    obtain ⟨h1, h2⟩ := ih (by omega)
    have b1 := cut_bd a b ha hb k (by omega)
    have b2 := cut_bd a b ha hb (k + 1) hk
    have hm := cut_mono (cutsL a b) k (k + 1) (by omega) hk
    have ca := in_const a (cutsL a b) k hk (fun r hr => ⟨by unfold cutsL; simp [(ends_mem a r hr).1], by unfold cutsL; simp [(ends_mem a r hr).2]⟩)
    have cb := in_const b (cutsL a b) k hk (fun r hr => ⟨by unfold cutsL; simp [(ends_mem b r hr).1], by unfold cutsL; simp [(ends_mem b r hr).2]⟩)
    generalize sortL (cutsL a b) = S at *
    by_cases hp : kp (inL a (cut S k)) (inL b (cut S k)) = true
    · have he : combTo kp a b S (k + 1) = pushR (combTo kp a b S k) (cut S k) (cut S (k + 1)) := by rw [combTo, if_pos hp]
      obtain ⟨k1, k2, _⟩ := pushR_spec (combTo kp a b S k) (cut S k) (cut S (k + 1)) b1.1 b2.2 h1 hm
      rw [he]
      refine ⟨k1, fun x => ?_⟩
      rw [k2, h2, Bool.eq_iff_iff]
      simp only [Bool.or_eq_true, Bool.and_eq_true, decide_eq_true_eq]
      constructor
      · rintro (⟨h, hq⟩ | h)
        · exact ⟨by omega, hq⟩
        · exact ⟨by omega, by rw [ca x h.1 h.2, cb x h.1 h.2]; exact hp⟩
      · rintro ⟨h, hq⟩
        by_cases e : x < cut S k
        · exact .inl ⟨by omega, hq⟩
        · exact .inr (by omega)
    · have he : combTo kp a b S (k + 1) = combTo kp a b S k := by rw [combTo, if_neg hp]
      rw [he]
      refine ⟨h1.mono hm, fun x => ?_⟩
      rw [h2, Bool.eq_iff_iff]
      simp only [Bool.and_eq_true, decide_eq_true_eq]
      constructor
      · rintro ⟨h, hq⟩
        exact ⟨by omega, hq⟩
      · rintro ⟨h, hq⟩
        by_cases e : x < cut S k
        · exact ⟨by omega, hq⟩
        · rw [ca x (by omega) (by omega), cb x (by omega) (by omega)] at hq; exact absurd hq hp
def combL (kp : Bool → Bool → Bool) (a b : List Rg) : List Rg := combTo kp a b (sortL (cutsL a b)) ((sortL (cutsL a b)).length - 1)
theorem combL_spec (kp : Bool → Bool → Bool) (a b : List Rg) (ha : validL a = true) (hb : validL b = true) :
    validL (combL kp a b) = true ∧ ∀ x, inL (combL kp a b) x = (decide (0 ≤ x ∧ x < 65536) && kp (inL a x) (inL b x)) := by
  have hl := cuts_len a b
  obtain ⟨h1, h2⟩ := combTo_spec kp a b ha hb ((sortL (cutsL a b)).length - 1) (by omega)
  rw [cut_last a b ha hb] at h2
  exact ⟨h1.valid, h2⟩
/-- Range i is the first that does not end at x or before: is x in the list? -/
theorem in_at (a : List Rg) (hv : validL a = true) (x : Int) (i : Nat) (hi : i ≤ a.length) (h1 : ∀ j (hj : j < a.length), j < i → a[j].1 + a[j].2 ≤ x) (h2 : ∀ hi : i < a.length, x < a[i].1 + a[i].2) :
    inL a x = if h : i < a.length then decide (a[i].1 ≤ x) else false := by
  have hsplit : inL a x = (inL (a.take i) x || inL (a.drop i) x) := by rw [← inL_append, List.take_append_drop]
  have ht : inL (a.take i) x = false := by
    unfold inL
    rw [List.any_eq_false]
    intro r hr
    obtain ⟨j, hj, rfl⟩ := List.getElem_of_mem hr
    have hj2 : j < i ∧ j < a.length := by simp at hj; omega
    have := h1 j hj2.2 hj2.1
    rw [List.getElem_take]
    simp [inR]; omega
  rw [hsplit, ht, Bool.false_or]
  by_cases hl : i < a.length
  · rw [dif_pos hl, drop_step a i hl, inL_cons]
    have hb := h2 hl
    have hvd : ∀ (e : Int) (l : List Rg) (i : Nat), validGo e l = true → ∃ e', validGo e' (l.drop i) = true := by
      intro e l i
      induction i generalizing e l with
      | zero => intro h; exact ⟨e, h⟩
      | succ i ih =>
        intro h
        cases l with
        | nil => exact ⟨e, rfl⟩
        | cons r t =>
          simp only [validGo, Bool.and_eq_true] at h
          exact ih _ t h.2
    obtain ⟨e', he'⟩ := hvd 0 a i hv
    rw [drop_step a i hl] at he'
    simp only [validGo, Bool.and_eq_true] at he'
    rw [not_in _ _ _ he'.2 (by omega), Bool.or_false]
    rw [inR, Bool.eq_iff_iff]
    simp only [decide_eq_true_eq]
    omega
  · rw [dif_neg hl, List.drop_of_length_le (by omega)]; rfl
end Go.Proofs.Ytebeaghombjooaa

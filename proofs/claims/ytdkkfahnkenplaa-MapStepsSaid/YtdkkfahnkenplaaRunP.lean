/- Lists of values as runs: plain functions and their laws. -/
import Derived.Test.YtdkkfahnkenplaaLib3
set_option linter.unusedVariables false
set_option linter.unusedSimpArgs false
namespace Go.Proofs.Ytdkkfahnkenplaa
open Go.RowKit

abbrev Rn (α : Type) := Nat × α
section
variable {α : Type}
def expand : List (Rn α) → List α
  | [] => []
  | r :: t => List.replicate r.1 r.2 ++ expand t
def tot : List (Rn α) → Nat
  | [] => 0
  | r :: t => r.1 + tot t
theorem expand_length (rs : List (Rn α)) : (expand rs).length = tot rs := by
  induction rs with
  | nil => rfl
  | cons r t ih => simp [expand, tot, ih]
theorem expand_append (a b : List (Rn α)) : expand (a ++ b) = expand a ++ expand b := by
  induction a with
  | nil => rfl
  | cons r t ih => simp [expand, ih]
theorem tot_append (a b : List (Rn α)) : tot (a ++ b) = tot a + tot b := by
  rw [← expand_length, expand_append, List.length_append, expand_length, expand_length]
theorem tot_take (rs : List (Rn α)) (k : Nat) : tot (rs.take k) ≤ tot rs := by
  have := tot_append (rs.take k) (rs.drop k)
  rw [List.take_append_drop] at this
  omega
theorem tot_snoc (rs : List (Rn α)) (k : Nat) (h : k < rs.length) : tot (rs.take (k + 1)) = tot (rs.take k) + rs[k].1 := by
  rw [List.take_succ_eq_append_getElem h, tot_append]; simp [tot]
/-- Maximal runs behind a value. -/
def MxA : Option α → List (Rn α) → Prop
  | _, [] => True
  | p, r :: t => 1 ≤ r.1 ∧ some r.2 ≠ p ∧ MxA (some r.2) t
abbrev Mx (rs : List (Rn α)) : Prop := MxA none rs
theorem MxA.none_ {p : Option α} {rs : List (Rn α)} (h : MxA p rs) : MxA none rs := by
  cases rs with
  | nil => trivial
  | cons r t => exact ⟨h.1, by simp, h.2.2⟩
theorem Mx_append_one (rs : List (Rn α)) (r : Rn α) (p : Option α) (h : MxA p rs) (h1 : 1 ≤ r.1) (h2 : ∀ l, rs.getLast? = some l → l.2 ≠ r.2) (h3 : rs = [] → some r.2 ≠ p) : MxA p (rs ++ [r]) := by
  induction rs generalizing p with
  | nil => exact ⟨h1, h3 rfl, trivial⟩
  | cons a t ih =>
    refine ⟨h.1, h.2.1, ih (some a.2) h.2.2 (fun l hl => ?_) (fun ht => ?_)⟩
    · apply h2 l
      cases t with
      | nil => simp at hl
      | cons b t => simpa using hl
    · subst ht
      have := h2 a (by simp)
      intro e; injection e with e; exact this e.symm
/-- 'push'. -/
def pushL [DecidableEq α] (rs : List (Rn α)) (r : Rn α) : List (Rn α) :=
  if r.1 < 1 then rs else
    match rs.getLast? with
    | some l => if l.2 = r.2 then rs.dropLast ++ [(l.1 + r.1, l.2)] else rs ++ [r]
    | none => [r]
theorem last_split {rs : List (Rn α)} {l : Rn α} (h : rs.getLast? = some l) : rs = rs.dropLast ++ [l] := by
  have hne : rs ≠ [] := by rintro rfl; simp at h
  rw [List.getLast?_eq_some_getLast hne] at h
  injection h with h
  rw [← h, List.dropLast_concat_getLast]
theorem pushL_expand [DecidableEq α] (rs : List (Rn α)) (r : Rn α) : expand (pushL rs r) = expand rs ++ List.replicate r.1 r.2 := by
  unfold pushL
  split
  · have : r.1 = 0 := by omega
    simp [this]
  · split
    · rename_i l hl
      split
      · rename_i he
        have hs := last_split hl
        rw [expand_append]
        conv => rhs; rw [hs, expand_append]
        simp only [expand, List.append_nil, List.append_assoc, ← he, List.replicate_append_replicate]
      · rw [expand_append]; simp [expand]
    · rename_i hl
      have : rs = [] := by simpa using hl
      subst this; simp [expand]
theorem pushL_tot [DecidableEq α] (rs : List (Rn α)) (r : Rn α) : tot (pushL rs r) = tot rs + r.1 := by
  rw [← expand_length, pushL_expand, List.length_append, expand_length, List.length_replicate]
theorem pushL_length [DecidableEq α] (rs : List (Rn α)) (r : Rn α) : (pushL rs r).length ≤ rs.length + 1 := by
  unfold pushL
  split
  · omega
  · split
    · rename_i l hl
      have := congrArg List.length (last_split hl)
      simp at this
      split
      · simp; try omega
      · simp
    · simp
theorem MxA_last {p : Option α} {a : List (Rn α)} {l : Rn α} (h : MxA p (a ++ [l])) (c : Nat) : MxA p (a ++ [(l.1 + c, l.2)]) := by
  induction a generalizing p with
  | nil => exact ⟨by have := h.1; simp; omega, h.2.1, trivial⟩
  | cons x t ih => exact ⟨h.1, h.2.1, ih h.2.2⟩
theorem pushL_Mx [DecidableEq α] (rs : List (Rn α)) (r : Rn α) (h : Mx rs) : Mx (pushL rs r) := by
  unfold pushL
  split
  · exact h
  · rename_i h1
    split
    · rename_i l hl
      split
      · have hs := last_split hl
        rw [hs] at h
        exact MxA_last h r.1
      · rename_i hne
        exact Mx_append_one rs r none h (by omega) (fun l' hl' => by rw [hl] at hl'; injection hl' with e; subst e; exact hne) (fun _ => by simp)
    · exact ⟨by omega, by simp, trivial⟩
theorem foldl_push [DecidableEq α] (b a : List (Rn α)) (h : Mx a) : Mx (b.foldl pushL a) ∧ expand (b.foldl pushL a) = expand a ++ expand b := by
  induction b generalizing a with
  | nil => exact ⟨h, by simp [expand]⟩
  | cons r t ih =>
    obtain ⟨h1, h2⟩ := ih (pushL a r) (pushL_Mx a r h)
    exact ⟨h1, by simp only [List.foldl_cons] at *; rw [h2, pushL_expand]; simp [expand]⟩
theorem foldl_push_tot [DecidableEq α] (b a : List (Rn α)) : tot (b.foldl pushL a) = tot a + tot b := by
  induction b generalizing a with
  | nil => simp [tot]
  | cons r t ih => rw [List.foldl_cons, ih, pushL_tot, tot]; omega
theorem foldl_push_length [DecidableEq α] (b a : List (Rn α)) : (b.foldl pushL a).length ≤ a.length + b.length := by
  induction b generalizing a with
  | nil => simp
  | cons r t ih => rw [List.foldl_cons]; have := ih (pushL a r); have := pushL_length a r; simp; omega

/-- 'part' from position 'at' on. -/
def partGo (from_ to : Nat) : Nat → List (Rn α) → List (Rn α)
  | _, [] => []
  | at_, r :: t => (if min to (at_ + r.1) - max from_ at_ = 0 then [] else [(min to (at_ + r.1) - max from_ at_, r.2)]) ++ partGo from_ to (at_ + r.1) t
def partL (rs : List (Rn α)) (from_ to : Nat) : List (Rn α) := partGo from_ to 0 rs
theorem partGo_snoc (f t : Nat) (at_ : Nat) (a : List (Rn α)) (r : Rn α) : partGo f t at_ (a ++ [r]) = partGo f t at_ a ++ (if min t (at_ + tot a + r.1) - max f (at_ + tot a) = 0 then [] else [(min t (at_ + tot a + r.1) - max f (at_ + tot a), r.2)]) := by
  induction a generalizing at_ with
  | nil => simp [partGo, tot]; by_cases h : min t (at_ + r.1) - max f at_ = 0 <;> simp [h]
  | cons x a ih => simp only [List.cons_append, partGo, ih, tot, List.append_assoc, Nat.add_assoc]
theorem partGo_length (f t : Nat) (at_ : Nat) (a : List (Rn α)) : (partGo f t at_ a).length ≤ a.length := by
  induction a generalizing at_ with
  | nil => simp [partGo]
  | cons x a ih => have := ih (at_ + x.1); simp only [partGo, List.length_append, List.length_cons]; split <;> simp <;> omega
theorem partGo_expand (f t : Nat) (at_ : Nat) (a : List (Rn α)) : expand (partGo f t at_ a) = ((expand a).take (t - at_)).drop (f - at_) := by
  induction a generalizing at_ with
  | nil => simp [partGo, expand]
  | cons x a ih =>
    rw [partGo, expand_append, ih, expand, List.take_append, List.drop_append]
    congr 1
    · rw [List.take_replicate, List.drop_replicate]
      split
      · rename_i h
        have : min (t - at_) x.1 - (f - at_) = 0 := by omega
        rw [this]; rfl
      · simp only [expand, List.append_nil]
        congr 1; omega
    · rw [List.length_replicate, List.length_take, List.length_replicate]
      by_cases h : x.1 ≤ t - at_
      · congr 1
        · omega
        · congr 1; omega
      · have e : t - (at_ + x.1) = 0 := by omega
        have e2 : t - at_ - x.1 = 0 := by omega
        rw [e, e2]; simp
theorem partL_expand (rs : List (Rn α)) (f t : Nat) : expand (partL rs f t) = ((expand rs).take t).drop f := by
  rw [partL, partGo_expand]; rfl
theorem partL_tot (rs : List (Rn α)) (f t : Nat) : tot (partL rs f t) ≤ tot rs := by
  rw [← expand_length, partL_expand, ← expand_length]; simp; omega
theorem partGo_in (f t : Nat) (at_ : Nat) (a : List (Rn α)) (p : Option α) (hf : f ≤ at_) (h : MxA p a) : MxA p (partGo f t at_ a) := by
  induction a generalizing at_ p with
  | nil => trivial
  | cons x a ih =>
    rw [partGo]
    split
    · rename_i h0
      have hemp : ∀ (l : List (Rn α)) (b : Nat), t ≤ b → partGo f t b l = [] := by
        intro l
        induction l with
        | nil => intro _ _; rfl
        | cons y l ih2 => intro b hb; rw [partGo, if_pos (by omega), ih2 _ (by omega)]; rfl
      have hx := h.1
      rw [hemp _ _ (by omega)]; trivial
    · exact ⟨by simp only; omega, h.2.1, ih _ _ (by omega) h.2.2⟩
theorem partGo_out (f t : Nat) (at_ : Nat) (a : List (Rn α)) (p : Option α) (h : MxA p a) : MxA none (partGo f t at_ a) := by
  induction a generalizing at_ p with
  | nil => trivial
  | cons x a ih =>
    rw [partGo]
    split
    · exact ih _ _ h.2.2
    · exact ⟨by simp only; omega, by simp, partGo_in f t _ a (some x.2) (by omega) h.2.2⟩
theorem partL_Mx (rs : List (Rn α)) (f t : Nat) (h : Mx rs) : Mx (partL rs f t) := partGo_out f t 0 rs none h

/-- The maximal runs of a list, found from its end. -/
def snocL [DecidableEq α] (rs : List (Rn α)) (v : α) : List (Rn α) := pushL rs (1, v)
def ofL [DecidableEq α] (l : List α) : List (Rn α) := l.foldl snocL []
theorem ofL_spec [DecidableEq α] (l : List α) : Mx (ofL l) ∧ expand (ofL l) = l := by
  have : ∀ (l : List α) (a : List (Rn α)), Mx a → Mx (l.foldl snocL a) ∧ expand (l.foldl snocL a) = expand a ++ l := by
    intro l
    induction l with
    | nil => intro a h; exact ⟨h, by simp⟩
    | cons v t ih =>
      intro a h
      obtain ⟨h1, h2⟩ := ih (snocL a v) (pushL_Mx a (1, v) h)
      exact ⟨h1, by rw [List.foldl_cons, h2, snocL, pushL_expand]; simp⟩
  exact this l [] trivial
/-- Maximal runs of one list are the same runs. -/
theorem Mx_unique : ∀ (a b : List (Rn α)) (p q : Option α), MxA p a → MxA q b → expand a = expand b → a = b
  | [], [], _, _, _, _, _ => rfl
  | [], r :: t, _, _, _, h, e => by
    have := congrArg List.length e
    have h1 := h.1
    simp [expand] at this; omega
  | r :: t, [], _, _, h, _, e => by
    have := congrArg List.length e
    have h1 := h.1
    simp [expand] at this; omega
  | (c, v) :: t, (d, u) :: s, p, q, h, k, e => by
    have h1 := h.1
    have k1 := k.1
    simp only at h1 k1
    have hv : v = u := by
      have e0 := congrArg (fun l => l[0]?) e
      simp only [expand] at e0
      rw [List.getElem?_append_left (by simp; omega), List.getElem?_append_left (by simp; omega)] at e0
      simp [List.getElem?_replicate, show 0 < c by omega, show 0 < d by omega] at e0
      exact e0
    subst hv
    have key : ∀ (c d : Nat) (t s : List (Rn α)), MxA (some v) t → MxA (some v) s → c < d → List.replicate c v ++ expand t = List.replicate d v ++ expand s → False := by
      intro c d t s ht hs hlt he
      have e1 : List.replicate d v = List.replicate c v ++ List.replicate (d - c) v := by rw [List.replicate_append_replicate]; congr 1; omega
      rw [e1, List.append_assoc] at he
      have he := List.append_cancel_left he
      cases t with
      | nil =>
        have := congrArg List.length he
        simp [expand] at this; omega
      | cons x t =>
        have x1 := ht.1
        have x2 := ht.2.1
        have e0 := congrArg (fun l => l[0]?) he
        simp only [expand] at e0
        rw [List.getElem?_append_left (by simp; omega), List.getElem?_append_left (by simp; omega)] at e0
        simp [List.getElem?_replicate, show 0 < x.1 by omega, show 0 < d - c by omega] at e0
        exact x2 (by rw [e0])
    simp only [expand] at e
    rcases Nat.lt_trichotomy c d with hcd | hcd | hcd
    · exact (key c d t s h.2.2 k.2.2 hcd e).elim
    · subst hcd
      have e2 := List.append_cancel_left e
      rw [Mx_unique t s _ _ h.2.2 k.2.2 e2]
    · exact (key d c s t k.2.2 h.2.2 hcd e.symm).elim
end
end Go.Proofs.Ytdkkfahnkenplaa

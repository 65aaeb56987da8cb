/- The law's helper 'events'. -/
import Derived.Test.YthgapllfjllnfaaRcvY
set_option linter.unusedVariables false
set_option linter.unusedSimpArgs false
namespace Go.Proofs.Ythgapllfjllnfaa
open Go.RowKit

/-- The characters with non-negative distances, cut to 20000 ticks. -/
def accE : Int → List Ev → List Ev
  | _, [] => []
  | p, e :: t => ⟨p + e.at_ % 20000, e.val, e.fl⟩ :: accE (p + e.at_ % 20000) t
def lastA : Int → List Ev → Int
  | p, [] => p
  | p, e :: t => lastA (p + e.at_ % 20000) t
def eventsL (raw : Bool) (l : List Ev) : List Ev := if raw then l.take 60 else accE 0 (l.take 60)
theorem accE_snoc (p : Int) (l : List Ev) (e : Ev) : accE p (l ++ [e]) = accE p l ++ [⟨lastA p l + e.at_ % 20000, e.val, e.fl⟩] := by
  induction l generalizing p with
  | nil => rfl
  | cons y t ih => simp only [List.cons_append, accE, lastA, ih]
theorem lastA_snoc (p : Int) (l : List Ev) (e : Ev) : lastA p (l ++ [e]) = lastA p l + e.at_ % 20000 := by
  induction l generalizing p with
  | nil => rfl
  | cons y t ih => simp only [List.cons_append, lastA, ih]
theorem lastA_bd (p : Int) (l : List Ev) : p ≤ lastA p l ∧ lastA p l ≤ p + 20000 * l.length := by
  induction l generalizing p with
  | nil => simp [lastA]
  | cons y t ih =>
    have h := ih (p + y.at_ % 20000)
    simp only [lastA, List.length_cons]
    omega
theorem accE_ord (p : Int) (l : List Ev) : ordE p (accE p l) = true := by
  induction l generalizing p with
  | nil => rfl
  | cons y t ih =>
    simp only [accE, ordE, Bool.and_eq_true, decide_eq_true_eq]
    exact ⟨by omega, ih _⟩
theorem accE_len (p : Int) (l : List Ev) : (accE p l).length = l.length := by
  induction l generalizing p with
  | nil => rfl
  | cons y t ih => simp [accE, ih]
theorem eventsL_len (raw : Bool) (l : List Ev) : (eventsL raw l).length ≤ 60 := by
  unfold eventsL
  split
  · simp; omega
  · rw [accE_len]; simp; omega
end Go.Proofs.Ythgapllfjllnfaa

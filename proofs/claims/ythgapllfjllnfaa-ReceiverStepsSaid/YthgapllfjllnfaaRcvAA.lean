/- ReceiverSteps in plain words: Idle between the characters changes neither the frames nor, but for its tick, the state. -/
import Derived.Test.YthgapllfjllnfaaRcvK
set_option linter.unusedVariables false
set_option linter.unusedSimpArgs false
namespace Go.Proofs.Ythgapllfjllnfaa
open Go.RowKit

/-- The state with another tick of Idle. -/
def wid (S : Rs) (i : Int) : Rs := ⟨S.xs, S.fi, S.la, S.fl, S.ac, S.lt, i⟩
theorem charS_wid (ch t15 t35 : Int) (S : Rs) (i : Int) (e : Ev) : charS ch t15 t35 (wid S i) e = wid (charS ch t15 t35 S e) i := by
  unfold charS
  have h1 : endS ch t35 (wid S i) e = endS ch t35 S e := rfl
  rw [h1]
  split <;> rfl
/-- Behind an Idle of the tick t, or without one: what the next character e then does. -/
def Mid (ch t15 t35 : Int) (T S1 : Rs) (e : Ev) (F F1 : List Fz) : Prop :=
  S1.lt = T.lt ∧ S1.xs.length ≤ 256 ∧ charS ch t15 t35 S1 e = wid (charS ch t15 t35 T e) S1.id_ ∧ F1 ++ (if endS ch t35 S1 e then [S1.frame] else []) = F ++ (if endS ch t35 T e then [T.frame] else [])
theorem mid_same (ch t15 t35 : Int) (T : Rs) (i : Int) (e : Ev) (F : List Fz) (h : T.xs.length ≤ 256) : Mid ch t15 t35 T (wid T i) e F F := ⟨rfl, h, charS_wid ch t15 t35 T i e, rfl⟩
theorem mid_take (ch t15 t35 : Int) (T : Rs) (t : Int) (e : Ev) (F : List Fz) (h0 : 0 ≤ t35) (hac : T.ac = true) (h1 : T.lt + t35 + ch ≤ t) (h2 : t ≤ e.at_) : Mid ch t15 t35 T (wid (takeS T) t) e F (F ++ [T.frame]) := by
  have he : endS ch t35 T e = true := by
    have h3 : e.at_ - ch - T.lt ≤ silS ch T e := Int.le_max_right _ _
    unfold endS
    rw [hac, Bool.true_and]
    exact decide_eq_true (by omega)
  have he1 : endS ch t35 (wid (takeS T) t) e = false := rfl
  refine ⟨rfl, by simp [wid, takeS], ?_, ?_⟩
  · unfold charS
    rw [he, he1]
    rfl
  · rw [he, he1]; simp
theorem charS_ac (ch t15 t35 : Int) (S : Rs) (e : Ev) : (charS ch t15 t35 S e).ac = true := rfl
theorem runS_ac (ch t15 t35 : Int) (S : Rs) (l : List Ev) (h : l ≠ []) : (runS ch t15 t35 S l).2.ac = true := by
  induction l generalizing S with
  | nil => exact absurd rfl h
  | cons e t ih =>
    cases t with
    | nil => rfl
    | cons y u => exact ih (charS ch t15 t35 S e) (by simp)
theorem accE_bd (p : Int) (l : List Ev) : ∀ e ∈ accE p l, p ≤ e.at_ ∧ e.at_ ≤ p + 20000 * l.length := by
  induction l generalizing p with
  | nil => simp [accE]
  | cons y t ih =>
    intro e he
    simp only [accE, List.mem_cons] at he
    simp only [List.length_cons]
    rcases he with rfl | he
    · dsimp only; omega
    · have := ih _ e he; omega
theorem evF_bd (l : List Ev) : ∀ e ∈ eventsL false l, 0 ≤ e.at_ ∧ e.at_ ≤ 1200000 := by
  intro e he
  have h := accE_bd 0 (l.take 60) e he
  have : (l.take 60).length ≤ 60 := by simp; omega
  omega
theorem evF_in (l : List Ev) : (eventsL false l).all inR = true := by
  rw [List.all_eq_true]
  intro e he
  have := evF_bd l e he
  simp only [inR, decide_eq_true_eq]; omega
theorem evF_ord (l : List Ev) : ordE 0 (eventsL false l) = true := accE_ord 0 _
/-- The end: the last frame is taken. -/
theorem frames_end (ch t15 t35 : Int) (l : List Ev) (h : l ≠ []) : framesS ch t15 t35 l = (runS ch t15 t35 .zero l).1 ++ [(runS ch t15 t35 .zero l).2.frame] := by
  rw [framesS, if_pos (runS_ac ch t15 t35 .zero l h)]
end Go.Proofs.Ythgapllfjllnfaa

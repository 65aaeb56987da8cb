/- ReceiverWhole in plain words. -/
import Derived.Test.YtoliplochipoeaaTRcvW
set_option linter.unusedVariables false
set_option linter.unusedSimpArgs false
namespace Go.Proofs.Ytoliplochipoeaa
open Go.RowKit

/-- The characters of a frame: values and gaps. -/
def evW (ch : Int) : Int → List (Int × Int) → List Ev
  | _, [] => []
  | at_, x :: t => ⟨at_ + ch + x.2, x.1, 0⟩ :: evW ch (at_ + ch + x.2) t
def lastW (ch : Int) : Int → List (Int × Int) → Int
  | at_, [] => at_
  | at_, x :: t => lastW ch (at_ + ch + x.2) t
theorem evW_snoc (ch at_ : Int) (l : List (Int × Int)) (x : Int × Int) : evW ch at_ (l ++ [x]) = evW ch at_ l ++ [⟨lastW ch at_ l + ch + x.2, x.1, 0⟩] := by
  induction l generalizing at_ with
  | nil => rfl
  | cons y t ih => simp only [List.cons_append, evW, lastW, ih]
theorem lastW_snoc (ch at_ : Int) (l : List (Int × Int)) (x : Int × Int) : lastW ch at_ (l ++ [x]) = lastW ch at_ l + ch + x.2 := by
  induction l generalizing at_ with
  | nil => rfl
  | cons y t ih => simp only [List.cons_append, lastW, ih]
theorem evW_len (ch at_ : Int) (l : List (Int × Int)) : (evW ch at_ l).length = l.length := by
  induction l generalizing at_ with
  | nil => rfl
  | cons y t ih => simp [evW, ih]
theorem lastW_bd (ch at_ : Int) (l : List (Int × Int)) (h0 : 0 ≤ ch) (h1 : ch ≤ 100000) (hg : ∀ x ∈ l, 0 ≤ x.2 ∧ x.2 ≤ 597) : at_ ≤ lastW ch at_ l ∧ lastW ch at_ l ≤ at_ + 100597 * l.length := by
  induction l generalizing at_ with
  | nil => simp [lastW]
  | cons y t ih =>
    have h := ih (at_ + ch + y.2) (fun x hx => hg x (List.mem_cons_of_mem _ hx))
    have hy := hg y List.mem_cons_self
    simp only [lastW, List.length_cons]
    omega
theorem lastE_evW (ch at_ : Int) (l : List (Int × Int)) : lastE at_ (evW ch at_ l) = lastW ch at_ l := by
  induction l generalizing at_ with
  | nil => rfl
  | cons y t ih => simp only [evW, lastE, lastW, ih]
theorem ord_whole (ch at_ : Int) (l : List (Int × Int)) (h0 : 0 ≤ ch) (hg : ∀ x ∈ l, 0 ≤ x.2 ∧ x.2 ≤ 597) : ordE at_ (evW ch at_ l) = true := by
  induction l generalizing at_ with
  | nil => rfl
  | cons y t ih =>
    have hy := hg y List.mem_cons_self
    simp only [evW, ordE, Bool.and_eq_true, decide_eq_true_eq]
    exact ⟨by omega, ih _ fun x hx => hg x (List.mem_cons_of_mem _ hx)⟩
theorem ordE_mono (p q : Int) (l : List Ev) (h : ordE p l = true) (hq : q ≤ p) : ordE q l = true := by
  cases l with
  | nil => rfl
  | cons e t => simp only [ordE, Bool.and_eq_true, decide_eq_true_eq] at h ⊢; exact ⟨by omega, h.2⟩
theorem in_whole (ch at_ : Int) (l : List (Int × Int)) (h0 : 0 ≤ ch) (h1 : ch ≤ 100000) (ha : 0 ≤ at_) (hg : ∀ x ∈ l, 0 ≤ x.2 ∧ x.2 ≤ 597) (hb : at_ + 100597 * l.length ≤ 1152921504606846976) : (evW ch at_ l).all inR = true := by
  induction l generalizing at_ with
  | nil => rfl
  | cons y t ih =>
    have hy := hg y List.mem_cons_self
    simp only [List.length_cons] at hb
    simp only [evW, List.all_cons, Bool.and_eq_true]
    refine ⟨?_, ih _ (by omega) (fun x hx => hg x (List.mem_cons_of_mem _ hx)) (by omega)⟩
    exact decide_eq_true ⟨by simp only; omega, by simp only; omega⟩
theorem addFl_w (ac : Bool) (sil t15 : Int) (n : Nat) (h : ¬ (ac = true ∧ t15 < sil)) (hn : n < 256) : addFl ac sil t15 n 0 0 = 0 := by
  unfold addFl
  rw [if_neg h, if_pos hn]
  decide
def stW (xs : List Int) (fi at_ : Int) : Rs := ⟨xs, fi, at_, 0, true, at_, 0⟩
theorem step_whole (ch t15 t35 at_ fi : Int) (xs : List Int) (x : Int × Int) (hx : 0 ≤ x.2 ∧ x.2 ≤ 597) (h15 : 597 ≤ t15) (h35 : 597 < t35) (hl : xs.length < 256) :
    endS ch t35 (stW xs fi at_) ⟨at_ + ch + x.2, x.1, 0⟩ = false ∧ charS ch t15 t35 (stW xs fi at_) ⟨at_ + ch + x.2, x.1, 0⟩ = stW (xs ++ [x.1]) fi (at_ + ch + x.2) := by
  have hs : silS ch (stW xs fi at_) ⟨at_ + ch + x.2, x.1, 0⟩ = x.2 := by
    simp only [silS, stW]
    omega
  have he : endS ch t35 (stW xs fi at_) ⟨at_ + ch + x.2, x.1, 0⟩ = false := by
    simp only [endS, hs, Bool.and_eq_false_iff]
    exact .inr (by simp; omega)
  refine ⟨he, ?_⟩
  rw [charS, he, hs]
  simp only [Bool.false_eq_true, if_false, addS, stW, if_pos hl, if_true]
  rw [addFl_w true x.2 t15 _ (by omega) hl]
theorem run_whole (ch t15 t35 at_ fi : Int) (xs : List Int) (l : List (Int × Int)) (hg : ∀ x ∈ l, 0 ≤ x.2 ∧ x.2 ≤ 597) (h15 : 597 ≤ t15) (h35 : 597 < t35) (hl : xs.length + l.length ≤ 256) :
    runS ch t15 t35 (stW xs fi at_) (evW ch at_ l) = ([], stW (xs ++ l.map (·.1)) fi (lastW ch at_ l)) := by
  induction l generalizing at_ xs with
  | nil => simp [evW, runS, lastW]
  | cons y t ih =>
    simp only [List.length_cons] at hl
    obtain ⟨a, b⟩ := step_whole ch t15 t35 at_ fi xs y (hg y List.mem_cons_self) h15 h35 (by omega)
    rw [evW, runS, a, b, ih _ _ (fun x hx => hg x (List.mem_cons_of_mem _ hx)) (by simp; omega)]
    simp [lastW]
theorem frames_whole (ch t15 t35 at_ : Int) (y : Int × Int) (l : List (Int × Int)) (hg : ∀ x ∈ y :: l, 0 ≤ x.2 ∧ x.2 ≤ 597) (h15 : 597 ≤ t15) (h35 : 597 < t35) (hl : (y :: l).length ≤ 256) :
    framesS ch t15 t35 (evW ch at_ (y :: l)) = [⟨(y :: l).map (·.1), at_ + ch + y.2, lastW ch at_ (y :: l), 0⟩] := by
  have h1 : charS ch t15 t35 .zero ⟨at_ + ch + y.2, y.1, 0⟩ = stW [y.1] (at_ + ch + y.2) (at_ + ch + y.2) := by
    rw [charS, show endS ch t35 .zero ⟨at_ + ch + y.2, y.1, 0⟩ = false from rfl]
    simp only [Bool.false_eq_true, if_false, addS, Rs.zero, stW]
    rw [addFl_w false _ t15 _ (by simp) (by simp)]
    rfl
  have h2 : runS ch t15 t35 .zero (evW ch at_ (y :: l)) = ([], stW ((y :: l).map (·.1)) (at_ + ch + y.2) (lastW ch at_ (y :: l))) := by
    rw [evW, runS, h1, run_whole ch t15 t35 _ _ _ l (fun x hx => hg x (List.mem_cons_of_mem _ hx)) h15 h35 (by simp only [List.length_cons, List.length_nil] at hl ⊢; omega)]
    rfl
  rw [framesS, h2]
  rfl
end Go.Proofs.Ytoliplochipoeaa

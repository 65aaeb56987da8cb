/- ReceiverLong in plain words. -/
import Derived.Test.YthgapllfjllnfaaRcvW
set_option linter.unusedVariables false
set_option linter.unusedSimpArgs false
namespace Go.Proofs.Ythgapllfjllnfaa
open Go.RowKit

def evLong (ch : Int) (i : Nat) : Ev := ⟨((i : Int) + 1) * ch, (i : Int) % 256, 0⟩
def evL (ch : Int) (n : Nat) : List Ev := (List.range n).map (evLong ch)
def xsL (j : Nat) : List Int := (List.range (min j 256)).map fun i => ((i : Nat) : Int) % 256
def stL (ch : Int) (j : Nat) : Rs := ⟨xsL j, if j = 0 then 0 else ch, j * ch, if 256 < j then 8 else 0, decide (0 < j), j * ch, 0⟩
theorem evL_succ (ch : Int) (n : Nat) : evL ch (n + 1) = evL ch n ++ [evLong ch n] := by simp [evL, List.range_succ]
theorem addFl_0 (ac : Bool) (t15 : Int) (n : Nat) (h : 0 ≤ t15) : addFl ac 0 t15 n 0 0 = if n < 256 then 0 else 8 := by
  unfold addFl
  rw [if_neg (show ¬ (ac = true ∧ t15 < 0) by omega)]
  split <;> decide
theorem addFl_8 (ac : Bool) (t15 : Int) (h : 0 ≤ t15) : addFl ac 0 t15 256 8 0 = 8 := by
  unfold addFl
  rw [if_neg (show ¬ (ac = true ∧ t15 < 0) by omega)]
  decide
theorem xsL_len (j : Nat) : (xsL j).length = min j 256 := by simp [xsL]
theorem step_long (ch t15 t35 : Int) (j : Nat) (h0 : 0 ≤ ch) (h1 : 0 ≤ t15) (h2 : 0 < t35) : endS ch t35 (stL ch j) (evLong ch j) = false ∧ charS ch t15 t35 (stL ch j) (evLong ch j) = stL ch (j + 1) := by
  have hm : ((j : Int) + 1) * ch = j * ch + ch := by rw [Int.add_mul, Int.one_mul]
  have hs : silS ch (stL ch j) (evLong ch j) = 0 := by
    simp only [silS, stL, evLong, hm]
    omega
  have he : endS ch t35 (stL ch j) (evLong ch j) = false := by
    simp only [endS, hs, Bool.and_eq_false_iff]
    exact .inr (by simp; omega)
  refine ⟨he, ?_⟩
  rw [charS, he, hs]
  simp only [Bool.false_eq_true, if_false, addS, stL, xsL_len, evLong, hm]
  have hc : ((j + 1 : Nat) : Int) * ch = j * ch + ch := by push_cast; exact hm
  rw [hc]
  congr 1
  · split
    · rename_i h
      rw [xsL, xsL, show min j 256 = j by omega, show min (j + 1) 256 = j + 1 by omega, List.range_succ, List.map_append]; rfl
    · rename_i h
      rw [xsL, xsL, show min j 256 = 256 by omega, show min (j + 1) 256 = 256 by omega]
  · rcases j with _ | j
    · simp
    · simp
  · by_cases hj : 256 < j
    · rw [if_pos hj, if_pos (by omega), show min j 256 = 256 by omega]
      exact addFl_8 _ _ h1
    · rw [if_neg hj, addFl_0 _ _ _ h1]
      by_cases hj2 : j = 256
      · subst hj2; rfl
      · rw [if_pos (by omega), if_neg (by omega)]
theorem run_long (ch t15 t35 : Int) (h0 : 0 ≤ ch) (h1 : 0 ≤ t15) (h2 : 0 < t35) (j : Nat) : runS ch t15 t35 .zero (evL ch j) = ([], stL ch j) := by
  induction j with
  | zero => simp [evL, runS, stL, xsL, Rs.zero]
  | succ j ih =>
    obtain ⟨a, b⟩ := step_long ch t15 t35 j h0 h1 h2
    rw [evL_succ, runS_snoc, ih]
    simp [a, b]
theorem ord_long (ch : Int) (h0 : 0 ≤ ch) (j : Nat) : ordE 0 (evL ch j) = true := by
  induction j with
  | zero => rfl
  | succ j ih =>
    have h := (runS_lt ch 0 1 .zero (evL ch j)).1
    rw [run_long ch 0 1 h0 (by omega) (by omega) j] at h
    have h : ((j : Int) * ch) = lastE 0 (evL ch j) := h
    rw [evL_succ, ordE_snoc, ih, ← h]
    simp only [Bool.true_and, decide_eq_true_eq, evLong, Int.add_mul, Int.one_mul]
    omega
theorem in_long (ch : Int) (h0 : 0 ≤ ch) (h1 : ch ≤ 100000) (j : Nat) (hj : j ≤ 300) : (evL ch j).all inR = true := by
  rw [List.all_eq_true]
  intro e he
  obtain ⟨i, hi, rfl⟩ := List.mem_map.1 he
  have hi := List.mem_range.1 hi
  have a : 0 ≤ ((i : Int) + 1) * ch := Int.mul_nonneg (by omega) h0
  have b : ((i : Int) + 1) * ch ≤ 301 * 100000 := Int.mul_le_mul (by omega) h1 h0 (by omega)
  show decide (0 ≤ ((i : Int) + 1) * ch ∧ ((i : Int) + 1) * ch ≤ 1152921504606846976) = true
  exact decide_eq_true ⟨a, by omega⟩
theorem frames_long (ch t15 t35 : Int) (h0 : 0 ≤ ch) (h1 : 0 ≤ t15) (h2 : 0 < t35) (n : Nat) (hn : 0 < n) : framesS ch t15 t35 (evL ch n) = [(stL ch n).frame] := by
  rw [framesS, run_long ch t15 t35 h0 h1 h2 n]
  simp [stL, hn]
end Go.Proofs.Ythgapllfjllnfaa

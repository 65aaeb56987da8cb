/- The reference's frames in plain words: they are the program's. -/
import Derived.Test.YthgapllfjllnfaaRcvG
set_option linter.unusedVariables false
set_option linter.unusedSimpArgs false
namespace Go.Proofs.Ythgapllfjllnfaa
open Go.RowKit

/-- The silence before the character b, behind a. -/
def silR (ch : Int) (a b : Ev) : Int := max 0 (b.at_ - ch - a.at_)
def flg (p f g l : Bool) : Int := (if p then 1 else 0) + (if f then 2 else 0) + (if g then 4 else 0) + (if l then 8 else 0)
def parB (e : Ev) : Bool := !decide (bits .and .i64 e.fl 1 = 0)
def frmB (e : Ev) : Bool := !decide (bits .and .i64 e.fl 2 = 0)
def lastD (c : List Ev) : Ev := c.getLastD ⟨0, 0, 0⟩
def headD (c : List Ev) : Ev := c.headD ⟨0, 0, 0⟩
/-- Whether a silence longer than t15 lies within the list (p is the character before it). -/
def gapG (ch t15 : Int) : Ev → List Ev → Bool
  | _, [] => false
  | p, e :: t => decide (t15 < silR ch p e) || gapG ch t15 e t
def gapL (ch t15 : Int) : List Ev → Bool
  | [] => false
  | e :: t => gapG ch t15 e t
def frameR (ch t15 : Int) (c : List Ev) : Fz :=
  ⟨(c.take 256).map Ev.val, (headD c).at_, (lastD c).at_, flg (c.any parB) (c.any frmB) (gapL ch t15 c) (decide (256 < c.length))⟩
/-- The frames of c ++ l, of which c is begun. -/
def goR (ch t15 t35 : Int) : List Ev → List Ev → List Fz
  | c, [] => [frameR ch t15 c]
  | c, e :: t => if t35 ≤ silR ch (lastD c) e then frameR ch t15 c :: goR ch t15 t35 [e] t else goR ch t15 t35 (c ++ [e]) t
def framesR (ch t15 t35 : Int) : List Ev → List Fz
  | [] => []
  | e :: t => goR ch t15 t35 [e] t

theorem flg_or (p f g l p' f' g' l' : Bool) : bits .or .i64 (flg p f g l) (flg p' f' g' l') = flg (p || p') (f || f') (g || g') (l || l') := by
  cases p <;> cases f <;> cases g <;> cases l <;> cases p' <;> cases f' <;> cases g' <;> cases l' <;> decide
theorem flg_4 (p f g l : Bool) : bits .or .i64 (flg p f g l) 4 = flg p f true l := by
  cases p <;> cases f <;> cases g <;> cases l <;> decide
theorem flg_8 (p f g l : Bool) : bits .or .i64 (flg p f g l) 8 = flg p f g true := by
  cases p <;> cases f <;> cases g <;> cases l <;> decide
theorem mask_of (X : BitVec 64) : ∃ k : Fin 4, X &&& 3#64 = BitVec.ofNat 64 k ∧ X &&& 1#64 = BitVec.ofNat 64 k &&& 1#64 ∧ X &&& 2#64 = BitVec.ofNat 64 k &&& 2#64 := by
  have h : (X &&& 3#64).toNat ≤ 3 := by rw [BitVec.toNat_and]; exact Nat.and_le_right
  have e : X &&& 3#64 = BitVec.ofNat 64 (X &&& 3#64).toNat := by simp
  refine ⟨⟨(X &&& 3#64).toNat, by omega⟩, e, ?_, ?_⟩
  · show _ = BitVec.ofNat 64 (X &&& 3#64).toNat &&& 1#64
    rw [← e, BitVec.and_assoc]; rfl
  · show _ = BitVec.ofNat 64 (X &&& 3#64).toNat &&& 2#64
    rw [← e, BitVec.and_assoc]; rfl
theorem mask3 (e : Ev) : bits .and .i64 e.fl 3 = flg (parB e) (frmB e) false false := by
  obtain ⟨at_, val, fl⟩ := e
  obtain ⟨k, h3, h1, h2⟩ := mask_of (BitVec.ofInt 64 fl)
  have e3 : bits .and .i64 fl 3 = IntKind.i64.wrap ((BitVec.ofInt 64 fl &&& 3#64).toNat : Int) := rfl
  have e1 : bits .and .i64 fl 1 = IntKind.i64.wrap ((BitVec.ofInt 64 fl &&& 1#64).toNat : Int) := rfl
  have e2 : bits .and .i64 fl 2 = IntKind.i64.wrap ((BitVec.ofInt 64 fl &&& 2#64).toNat : Int) := rfl
  simp only [parB, frmB, e3, e1, e2, h1, h2, h3]
  match k with
  | 0 => decide
  | 1 => decide
  | 2 => decide
  | 3 => decide
theorem gapG_snoc (ch t15 : Int) (p : Ev) (c : List Ev) (e : Ev) : gapG ch t15 p (c ++ [e]) = (gapG ch t15 p c || decide (t15 < silR ch (c.getLastD p) e)) := by
  induction c generalizing p with
  | nil => simp [gapG]
  | cons y t ih => simp only [List.cons_append, gapG, ih, Bool.or_assoc]; cases t <;> rfl
theorem gapL_snoc (ch t15 : Int) (c : List Ev) (e : Ev) (h : c ≠ []) : gapL ch t15 (c ++ [e]) = (gapL ch t15 c || decide (t15 < silR ch (lastD c) e)) := by
  cases c with
  | nil => exact absurd rfl h
  | cons y t => simp only [List.cons_append, gapL, gapG_snoc]; cases t <;> rfl
theorem lastD_snoc (c : List Ev) (e : Ev) : lastD (c ++ [e]) = e := by simp [lastD]
theorem headD_snoc (c : List Ev) (e : Ev) (h : c ≠ []) : headD (c ++ [e]) = headD c := by cases c <;> simp_all [headD]
/-- The receiver's state within the frame c. -/
def stOf (ch t15 : Int) (c : List Ev) (i : Int) : Rs :=
  ⟨(c.take 256).map Ev.val, (headD c).at_, (lastD c).at_, flg (c.any parB) (c.any frmB) (gapL ch t15 c) (decide (256 < c.length)), true, (lastD c).at_, i⟩
theorem add_first (ch t15 : Int) (S : Rs) (sil : Int) (e : Ev) (h1 : S.xs = []) (h2 : S.ac = false) (h3 : S.fl = 0) : addS t15 S sil e = stOf ch t15 [e] S.id_ := by
  obtain ⟨xs, fi, la, fl, ac, lt, id_⟩ := S
  dsimp only at h1 h2 h3
  subst h1 h2 h3
  simp only [addS, stOf, headD, lastD]
  congr 1
  simp only [addFl, mask3]
  exact (flg_or false false false false _ _ _ _).trans (by simp [gapL, gapG])
theorem add_next (ch t15 : Int) (c : List Ev) (i : Int) (e : Ev) (h : c ≠ []) : addS t15 (stOf ch t15 c i) (silR ch (lastD c) e) e = stOf ch t15 (c ++ [e]) i := by
  have hp : 0 < c.length := List.length_pos_iff.2 h
  simp only [addS, stOf, headD_snoc c e h, lastD_snoc, gapL_snoc ch t15 c e h, List.any_append, List.any_cons, List.any_nil, Bool.or_false, List.length_append, List.length_cons, List.length_nil, List.length_map, List.length_take]
  congr 1
  · by_cases h2 : c.length < 256
    · rw [if_pos (by omega), List.take_of_length_le (by omega), List.take_of_length_le (by simp; omega), List.map_append]; rfl
    · rw [if_neg (by omega), List.take_append_of_le_length (by omega)]
  · simp only [addFl, mask3]
    by_cases h3 : t15 < silR ch (lastD c) e <;> by_cases h2 : c.length < 256
    · have hm : min 256 c.length < 256 := by omega
      have d1 : decide (256 < c.length) = false := by simp; omega
      have d2 : decide (256 < c.length + (0 + 1)) = false := by simp; omega
      simp only [h3, hm, and_self, if_true, flg_4, flg_8, flg_or, d1, d2, decide_true, Bool.or_true, Bool.or_false, Bool.true_or]
    · have hm : ¬ min 256 c.length < 256 := by omega
      have d2 : decide (256 < c.length + (0 + 1)) = true := by simp; omega
      simp only [h3, hm, and_self, if_true, if_false, flg_4, flg_8, flg_or, d2, decide_true, Bool.or_true, Bool.or_false, Bool.true_or]
    · have hm : min 256 c.length < 256 := by omega
      have d1 : decide (256 < c.length) = false := by simp; omega
      have d2 : decide (256 < c.length + (0 + 1)) = false := by simp; omega
      simp only [h3, hm, and_false, if_true, if_false, flg_4, flg_8, flg_or, d1, d2, decide_false, Bool.or_false]
    · have hm : ¬ min 256 c.length < 256 := by omega
      have d2 : decide (256 < c.length + (0 + 1)) = true := by simp; omega
      simp only [h3, hm, and_false, if_true, if_false, flg_4, flg_8, flg_or, d2, decide_false, Bool.or_false, Bool.true_or]
theorem end_of (ch t15 t35 : Int) (c : List Ev) (i : Int) (e : Ev) : endS ch t35 (stOf ch t15 c i) e = decide (t35 ≤ silR ch (lastD c) e) := by unfold endS; exact Bool.true_and _
theorem run_go (ch t15 t35 : Int) (c l : List Ev) (i : Int) (h : c ≠ []) : (runS ch t15 t35 (stOf ch t15 c i) l).1 ++ [(runS ch t15 t35 (stOf ch t15 c i) l).2.frame] = goR ch t15 t35 c l ∧ (runS ch t15 t35 (stOf ch t15 c i) l).2.ac = true := by
  induction l generalizing c with
  | nil => exact ⟨rfl, rfl⟩
  | cons e t ih =>
    have hs : silS ch (stOf ch t15 c i) e = silR ch (lastD c) e := rfl
    simp only [runS, goR, end_of]
    by_cases h3 : t35 ≤ silR ch (lastD c) e
    · have hc : charS ch t15 t35 (stOf ch t15 c i) e = stOf ch t15 [e] i := by
        rw [charS, end_of, if_pos (by simpa using h3)]
        exact add_first ch t15 _ _ e rfl rfl rfl
      obtain ⟨a, b⟩ := ih [e] (by simp)
      rw [hc, if_pos (by simpa using h3), if_pos h3]
      exact ⟨by rw [← a]; rfl, b⟩
    · have hc : charS ch t15 t35 (stOf ch t15 c i) e = stOf ch t15 (c ++ [e]) i := by
        rw [charS, end_of, if_neg (by simpa using h3), hs]
        exact add_next ch t15 c i e h
      obtain ⟨a, b⟩ := ih (c ++ [e]) (by simp)
      rw [hc, if_neg (by simpa using h3), if_neg h3]
      exact ⟨by rw [← a]; rfl, b⟩
/-- The program's frames are the reference's. -/
theorem frames_eq (ch t15 t35 : Int) (l : List Ev) : framesS ch t15 t35 l = framesR ch t15 t35 l := by
  cases l with
  | nil => rfl
  | cons e t =>
    have hc : charS ch t15 t35 .zero e = stOf ch t15 [e] 0 := by
      rw [charS, if_neg (by simp [endS, Rs.zero])]
      exact add_first ch t15 _ _ e rfl rfl rfl
    obtain ⟨a, b⟩ := run_go ch t15 t35 [e] t 0 (by simp)
    simp only [framesS, runS, hc, b, if_true, framesR, ← a]
    simp [endS, Rs.zero]
end Go.Proofs.Ythgapllfjllnfaa

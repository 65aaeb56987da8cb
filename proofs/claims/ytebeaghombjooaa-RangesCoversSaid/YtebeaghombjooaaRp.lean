/- Layer 12, in plain words: a valid list is known by its members; what pushR, closing, counting and covering say of the members. No program. -/
import Derived.Test.YtebeaghombjooaaRe
set_option linter.unusedVariables false
set_option linter.unusedSimpArgs false
namespace Go.Proofs.Ytebeaghombjooaa
open Go.RowKit

def nxt (e : Int) : List Rg → Int
  | [] => e
  | r :: t => nxt (r.1 + r.2 + 1) t
theorem nxt_snoc (e : Int) (l : List Rg) (r : Rg) : nxt e (l ++ [r]) = r.1 + r.2 + 1 := by
  induction l generalizing e with
  | nil => rfl
  | cons x t ih => exact ih _
theorem validGo_snoc (e : Int) (l : List Rg) (r : Rg) : validGo e (l ++ [r]) = (validGo e l && okR (nxt e l) r) := by
  induction l generalizing e with
  | nil => simp [validGo, nxt]
  | cons x t ih => simp only [List.cons_append, validGo, nxt, ih, Bool.and_assoc]
theorem okR_iff (e : Int) (r : Rg) : okR e r = true ↔ e ≤ r.1 ∧ r.1 < 65536 ∧ 1 ≤ r.2 ∧ r.2 ≤ 65536 - r.1 := by simp [okR]
theorem inR_iff (a : Int) (r : Rg) : inR a r = true ↔ r.1 ≤ a ∧ a < r.1 + r.2 := by simp [inR]
theorem inL_append (l m : List Rg) (a : Int) : inL (l ++ m) a = (inL l a || inL m a) := by simp [inL]
theorem inL_cons (r : Rg) (t : List Rg) (a : Int) : inL (r :: t) a = (inR a r || inL t a) := by simp [inL]
theorem inL_nil (a : Int) : inL [] a = false := rfl
theorem inL_one (r : Rg) (a : Int) : inL [r] a = inR a r := by simp [inL]
theorem valid_in (e : Int) (l : List Rg) (a : Int) (hv : validGo e l = true) (h : inL l a = true) : e ≤ a ∧ a < 65536 := by
  induction l generalizing e with
  | nil => simp [inL] at h
  | cons r t ih =>
    simp only [validGo, Bool.and_eq_true, okR_iff] at hv
    rw [inL_cons, Bool.or_eq_true, inR_iff] at h
    rcases h with h | h
    · omega
    · have := ih _ hv.2 h; omega
theorem not_in (e : Int) (l : List Rg) (a : Int) (hv : validGo e l = true) (h : a < e ∨ 65536 ≤ a) : inL l a = false := by
  rcases hb : inL l a with _ | _
  · rfl
  · have := valid_in e l a hv hb; omega
theorem valid_unique (e : Int) (l m : List Rg) (h1 : validGo e l = true) (h2 : validGo e m = true) (h : ∀ a, inL l a = inL m a) : l = m := by
  induction l generalizing e m with
  | nil =>
    cases m with
    | nil => rfl
    | cons s u =>
      simp only [validGo, Bool.and_eq_true, okR_iff] at h2
      have := h s.1
      rw [inL_nil, inL_cons, (inR_iff s.1 s).2 (by omega)] at this
      simp at this
  | cons r t ih =>
    cases m with
    | nil =>
      simp only [validGo, Bool.and_eq_true, okR_iff] at h1
      have := h r.1
      rw [inL_nil, inL_cons, (inR_iff r.1 r).2 (by omega)] at this
      simp at this
    | cons s u =>
      simp only [validGo, Bool.and_eq_true, okR_iff] at h1 h2
      obtain ⟨⟨a1, a2, a3, a4⟩, a5⟩ := h1
      obtain ⟨⟨b1, b2, b3, b4⟩, b5⟩ := h2
      have low : ∀ (x y : Rg) (v : List Rg), 1 ≤ x.2 → validGo (y.1 + y.2 + 1) v = true → inL (y :: v) x.1 = true → 1 ≤ y.2 → y.1 ≤ x.1 := by
        intro x y v hx hv hin hy
        rw [inL_cons, Bool.or_eq_true, inR_iff] at hin
        rcases hin with hin | hin
        · exact hin.1
        · have := valid_in _ _ _ hv hin; omega
      have e1 : s.1 ≤ r.1 := low r s u a3 b5 (by rw [← h, inL_cons, (inR_iff r.1 r).2 (by omega)]; rfl) b3
      have e2 : r.1 ≤ s.1 := low s r t b3 a5 (by rw [h, inL_cons, (inR_iff s.1 s).2 (by omega)]; rfl) a3
      have en : ∀ (x y : Rg) (v v' : List Rg), x.1 = y.1 → 1 ≤ x.2 → 1 ≤ y.2 → validGo (x.1 + x.2 + 1) v = true → (inL (x :: v) (x.1 + x.2) = inL (y :: v') (x.1 + x.2)) → ¬ x.2 < y.2 := by
        intro x y v v' hxy hx hy hv hin hlt
        rw [inL_cons, inL_cons, not_in _ v _ hv (by omega), Bool.or_false] at hin
        have k1 : inR (x.1 + x.2) x = false := by simp [inR]
        have k2 : inR (x.1 + x.2) y = true := (inR_iff _ _).2 (by omega)
        rw [k1, k2] at hin
        simp at hin
      have n1 := en r s t u (by omega) a3 b3 a5 (h _)
      have n2 := en s r u t (by omega) b3 a3 b5 (h _).symm
      have hrs : r = s := Prod.ext (by omega) (by omega)
      subst hrs
      have := ih (r.1 + r.2 + 1) u a5 b5 (fun a => by
        have ha := h a
        rw [inL_cons, inL_cons] at ha
        by_cases hlt : a < r.1 + r.2 + 1
        · rw [not_in _ _ _ a5 (.inl hlt), not_in _ _ _ b5 (.inl hlt)]
        · have k : inR a r = false := by simp [inR]; omega
          rw [k, Bool.false_or, Bool.false_or] at ha
          exact ha)
      rw [this]

/-! ### pushR -/
structure PInv (l : List Rg) (e : Int) : Prop where
  valid : validL l = true
  nx : nxt 0 l ≤ e + 1
theorem PInv.nil {e : Int} (h : -1 ≤ e) : PInv [] e := ⟨rfl, by simp [nxt]; omega⟩
theorem PInv.mono {l : List Rg} {e e' : Int} (h : PInv l e) (k : e ≤ e') : PInv l e' := ⟨h.valid, by have := h.nx; omega⟩
theorem PInv.mem {l : List Rg} {e : Int} (h : PInv l e) : ∀ r ∈ l, 0 ≤ r.1 ∧ r.1 ≤ 65536 ∧ 0 ≤ r.2 ∧ r.2 ≤ 65536 := fun r hr => by
  have := validGo_mem 0 l (by omega) h.valid r hr; omega
theorem list_snoc (l : List Rg) (h : l ≠ []) : ∃ a r, l = a ++ [r] := ⟨l.dropLast, l.getLast h, (List.dropLast_concat_getLast h).symm⟩
theorem pushR_spec (l : List Rg) (f e : Int) (hf : 0 ≤ f) (he : e ≤ 65536) (h : PInv l f) (hfe : f ≤ e) :
    PInv (pushR l f e) e ∧ (∀ a, inL (pushR l f e) a = (inL l a || decide (f ≤ a ∧ a < e))) ∧ sumL (pushR l f e) = sumL l + (e - f) := by
  obtain ⟨hv, hn⟩ := h
  by_cases h0 : e ≤ f
  · rw [pushR, if_pos h0]
    refine ⟨⟨hv, by omega⟩, fun a => ?_, by omega⟩
    have : decide (f ≤ a ∧ a < e) = false := by simp; omega
    rw [this, Bool.or_false]
  · by_cases hl : l = []
    · subst hl
      have hp : pushR [] f e = [(f, e - f)] := by rw [pushR, if_neg h0]; rfl
      rw [hp]
      refine ⟨⟨by simp [validL, validGo, okR]; omega, by simp [nxt]; omega⟩, fun a => ?_, by simp [sumL]⟩
      rw [inL_one, inL_nil, Bool.false_or, inR]
      congr 1
      simp only [eq_iff_iff]
      omega
    · obtain ⟨x, r, rfl⟩ := list_snoc l hl
      rw [nxt_snoc] at hn
      rw [validL, validGo_snoc, Bool.and_eq_true, okR_iff] at hv
      obtain ⟨v1, v2, v3, v4, v5⟩ := hv
      by_cases hm : r.1 + r.2 = f
      · have hp : pushR (x ++ [r]) f e = x ++ [(r.1, r.2 + (e - f))] := by rw [pushR, if_neg h0, List.getLast?_concat, List.dropLast_concat]; exact if_pos hm
        rw [hp]
        refine ⟨⟨?_, by rw [nxt_snoc]; simp only; omega⟩, fun a => ?_, by rw [sumL_append, sumL_append]; simp only [sumL]; omega⟩
        · rw [validL, validGo_snoc, Bool.and_eq_true, okR_iff]
          exact ⟨v1, by simpa using v2, by simpa using v3, by simp only; omega, by simp only; omega⟩
        · rw [inL_append, inL_append, inL_one, inL_one, Bool.or_assoc]
          congr 1
          rw [Bool.eq_iff_iff]
          simp only [inR, Bool.or_eq_true, decide_eq_true_eq]
          omega
      · have hp : pushR (x ++ [r]) f e = x ++ [r] ++ [(f, e - f)] := by rw [pushR, if_neg h0, List.getLast?_concat]; exact if_neg hm
        rw [hp]
        refine ⟨⟨?_, by rw [nxt_snoc]; simp only; omega⟩, fun a => ?_, by rw [sumL_append]; simp only [sumL]; omega⟩
        · rw [validL, validGo_snoc, validGo_snoc, nxt_snoc, Bool.and_eq_true, Bool.and_eq_true, okR_iff, okR_iff]
          exact ⟨⟨v1, v2, v3, v4, v5⟩, by simp only; omega, by simp only; omega, by simp only; omega, by simp only; omega⟩
        · rw [inL_append (x ++ [r]), inL_one]
          congr 1
          rw [Bool.eq_iff_iff]
          simp only [inR, decide_eq_true_eq]
          omega

/-! ### closing a set of flags -/
def closeTo (f : Nat → Bool) : Nat → List Rg
  | 0 => []
  | n + 1 => if f n then pushR (closeTo f n) n (n + 1) else closeTo f n
def cntF (f : Nat → Bool) : Nat → Int
  | 0 => 0
  | n + 1 => cntF f n + (if f n then 1 else 0)
theorem closeTo_spec (f : Nat → Bool) (n : Nat) (hn : n ≤ 65536) :
    PInv (closeTo f n) n ∧ (∀ a, inL (closeTo f n) a = (decide (0 ≤ a ∧ a < n) && f a.toNat)) ∧ sumL (closeTo f n) = cntF f n := by
  induction n with
  | zero => exact ⟨PInv.nil (by omega), fun a => by rw [closeTo, inL_nil]; have : decide (0 ≤ a ∧ a < ((0 : Nat) : Int)) = false := by simp only [decide_eq_false_iff_not]; omega
                                                    rw [this]; rfl, rfl⟩
  | succ n ih =>
    obtain ⟨h1, h2, h3⟩ := ih (by omega)
    by_cases hf : f n = true
    · have hc : closeTo f (n + 1) = pushR (closeTo f n) n (n + 1) := by rw [closeTo, if_pos hf]
      obtain ⟨k1, k2, k3⟩ := pushR_spec (closeTo f n) n (n + 1) (by omega) (by omega) h1 (by omega)
      rw [hc]
      refine ⟨by simpa using k1, fun a => ?_, ?_⟩
      · rw [k2, h2, Bool.eq_iff_iff]
        simp only [Bool.or_eq_true, Bool.and_eq_true, decide_eq_true_eq]
        constructor
        · rintro (⟨h, hf'⟩ | h)
          · exact ⟨by omega, hf'⟩
          · exact ⟨by omega, by rw [show a.toNat = n by omega]; exact hf⟩
        · rintro ⟨h, hf'⟩
          by_cases e : a < n
          · exact .inl ⟨by omega, hf'⟩
          · exact .inr (by omega)
      · rw [k3, h3, cntF, if_pos hf]; omega
    · have hc : closeTo f (n + 1) = closeTo f n := by rw [closeTo, if_neg hf]
      rw [hc]
      refine ⟨h1.mono (by omega), fun a => ?_, ?_⟩
      · rw [h2, Bool.eq_iff_iff]
        simp only [Bool.and_eq_true, decide_eq_true_eq]
        constructor
        · rintro ⟨h, hf'⟩
          exact ⟨by omega, hf'⟩
        · rintro ⟨h, hf'⟩
          by_cases e : a < n
          · exact ⟨by omega, hf'⟩
          · rw [show a.toNat = n by omega] at hf'; exact absurd hf' hf
      · rw [h3, cntF, if_neg hf]; omega
/-- A valid list is the closing of its members. -/
theorem close_eq (l : List Rg) (hv : validL l = true) (f : Nat → Bool) (N : Nat) (hN : N = 65536) (h : ∀ i : Nat, i < N → inL l i = f i) : closeTo f N = l := by
  obtain ⟨h1, h2, _⟩ := closeTo_spec f N (by omega)
  refine valid_unique 0 _ _ h1.valid hv fun a => ?_
  rw [h2]
  by_cases ha : 0 ≤ a ∧ a < N
  · obtain ⟨i, rfl⟩ : ∃ i : Nat, a = i := ⟨a.toNat, by omega⟩
    rw [h i (by omega)]
    simp only [Int.toNat_natCast]
    have : decide (0 ≤ (i : Int) ∧ (i : Int) < N) = true := by simp only [decide_eq_true_eq]; exact ha
    rw [this, Bool.true_and]
  · have : decide (0 ≤ a ∧ a < (N : Int)) = false := by simp only [decide_eq_false_iff_not]; exact ha
    rw [this, Bool.false_and, not_in 0 l a hv (by omega)]
theorem sum_cnt (l : List Rg) (hv : validL l = true) (f : Nat → Bool) (N : Nat) (hN : N = 65536) (h : ∀ i : Nat, i < N → inL l i = f i) : sumL l = cntF f N := by
  rw [← close_eq l hv f N hN h, (closeTo_spec f N (by omega)).2.2]
theorem cnt_add (f g u i : Nat → Bool) (n : Nat) (h : ∀ k, k < n → u k = (f k || g k) ∧ i k = (f k && g k)) : cntF u n + cntF i n = cntF f n + cntF g n := by
  induction n with
  | zero => rfl
  | succ n ih =>
    have := ih fun k hk => h k (by omega)
    obtain ⟨h1, h2⟩ := h n (by omega)
    simp only [cntF, h1, h2]
    cases f n <;> cases g n <;> simp <;> omega
theorem cnt_congr (f g : Nat → Bool) (n : Nat) (h : ∀ k, k < n → f k = g k) : cntF f n = cntF g n := by
  induction n with
  | zero => rfl
  | succ n ih => simp only [cntF, ih fun k hk => h k (by omega), h n (by omega)]
theorem cnt_none (f : Nat → Bool) (n : Nat) (h : ∀ k, k < n → f k = false) : cntF f n = 0 := by
  induction n with
  | zero => rfl
  | succ n ih => simp only [cntF, ih fun k hk => h k (by omega), h n (by omega)]; rfl
/-- Of the addresses from p on, q of them, all are in f just where their number is q. -/
theorem cnt_part (f : Nat → Bool) (p q n : Nat) (hn : p + q ≤ n) :
    cntF (fun i => f i && decide (p ≤ i ∧ i < p + q)) n ≤ q ∧ (cntF (fun i => f i && decide (p ≤ i ∧ i < p + q)) n = q ↔ ∀ i, p ≤ i → i < p + q → f i = true) := by
  have gen : ∀ m, m ≤ n → 0 ≤ cntF (fun i => f i && decide (p ≤ i ∧ i < p + q)) m ∧ cntF (fun i => f i && decide (p ≤ i ∧ i < p + q)) m ≤ (if m ≤ p then 0 else if m ≤ p + q then (m : Int) - p else q) ∧
      (cntF (fun i => f i && decide (p ≤ i ∧ i < p + q)) m = (if m ≤ p then 0 else if m ≤ p + q then (m : Int) - p else q) ↔ ∀ i, p ≤ i → i < p + q → i < m → f i = true) := by
    intro m hm
    induction m with
    | zero => exact ⟨by simp [cntF], by simp [cntF], by simp [cntF]⟩
    | succ m ih =>
      obtain ⟨i0, i1, i2⟩ := ih (by omega)
      by_cases hin : p ≤ m ∧ m < p + q
      · have hd : decide (p ≤ m ∧ m < p + q) = true := by simp only [decide_eq_true_eq]; exact hin
        have e1 : (if m ≤ p then (0 : Int) else if m ≤ p + q then (m : Int) - p else q) = (m : Int) - p := by split; omega; rw [if_pos (by omega)]
        have e2 : (if m + 1 ≤ p then (0 : Int) else if m + 1 ≤ p + q then ((m + 1 : Nat) : Int) - p else q) = (m : Int) - p + 1 := by rw [if_neg (by omega), if_pos (by omega)]; omega
        rw [e1] at i1 i2
        rw [e2]
        simp only [cntF, hd, Bool.and_true]
        refine ⟨by split <;> omega, by split <;> omega, ?_⟩
        constructor
        · intro h i hi1 hi2 hi3
          by_cases hfm : f m = true
          · rw [if_pos hfm] at h
            by_cases e : i = m
            · subst e; exact hfm
            · exact i2.1 (by omega) i hi1 hi2 (by omega)
          · rw [if_neg hfm] at h; omega
        · intro h
          rw [if_pos (h m hin.1 hin.2 (by omega)), i2.2 fun i hi1 hi2 hi3 => h i hi1 hi2 (by omega)]
      · have hd : decide (p ≤ m ∧ m < p + q) = false := by simp only [decide_eq_false_iff_not]; exact hin
        have e1 : (if m + 1 ≤ p then (0 : Int) else if m + 1 ≤ p + q then ((m + 1 : Nat) : Int) - p else q) = (if m ≤ p then (0 : Int) else if m ≤ p + q then (m : Int) - p else q) := by
          by_cases h1 : m + 1 ≤ p
          · rw [if_pos h1, if_pos (by omega)]
          · by_cases h2 : m ≤ p
            · rw [if_neg h1, if_pos h2]
              by_cases h3 : m + 1 ≤ p + q
              · omega
              · rw [if_neg h3]; omega
            · rw [if_neg h1, if_neg h2, if_neg (by omega)]
              by_cases h3 : m ≤ p + q
              · rw [if_pos h3]; omega
              · rw [if_neg h3]
        rw [e1]
        simp only [cntF, hd, Bool.and_false, Bool.false_eq_true, if_false, Int.add_zero]
        refine ⟨i0, i1, i2.trans ?_⟩
        constructor
        · intro h i hi1 hi2 hi3
          exact h i hi1 hi2 (by omega)
        · intro h i hi1 hi2 hi3
          exact h i hi1 hi2 (by omega)
  obtain ⟨_, g1, g2⟩ := gen n (Nat.le_refl _)
  have ee : (if n ≤ p then (0 : Int) else if n ≤ p + q then (n : Int) - p else q) = q := by
    by_cases h1 : n ≤ p
    · rw [if_pos h1]; omega
    · by_cases h2 : n ≤ p + q
      · rw [if_neg h1, if_pos h2]; omega
      · rw [if_neg h1, if_neg h2]
  rw [ee] at g1 g2
  exact ⟨g1, g2.trans ⟨fun h i h1 h2 => h i h1 h2 (by omega), fun h i h1 h2 _ => h i h1 h2⟩⟩

/-! ### covering -/
theorem allFrom_iff (l : List Rg) (a : Int) (m : Nat) : allFrom l a m = true ↔ ∀ i : Int, a ≤ i → i < a + m → inL l i = true := by
  induction m generalizing a with
  | zero => simp [allFrom]; intro i h1 h2; omega
  | succ m ih =>
    simp only [allFrom, Bool.and_eq_true, ih]
    constructor
    · rintro ⟨h1, h2⟩ i hi1 hi2
      by_cases e : i = a
      · subst e; exact h1
      · exact h2 i (by omega) (by omega)
    · intro h
      exact ⟨h a (by omega) (by omega), fun i h1 h2 => h i (by omega) (by omega)⟩
theorem end_free (e : Int) (l : List Rg) (he : validGo e l = true) (x : Rg) (hx : x ∈ l) : inL l (x.1 + x.2) = false := by
  induction l generalizing e with
  | nil => cases hx
  | cons r t ih =>
    simp only [validGo, Bool.and_eq_true, okR_iff] at he
    obtain ⟨⟨a1, a2, a3, a4⟩, a5⟩ := he
    rw [inL_cons]
    rcases List.mem_cons.1 hx with rfl | hx
    · have : inR (x.1 + x.2) x = false := by simp [inR]
      rw [this, not_in _ _ _ a5 (by omega)]; rfl
    · rw [ih _ a5 hx, Bool.or_false]
      have hm : inL t x.1 = true ∨ True := .inr trivial
      have hx1 : r.1 + r.2 + 1 ≤ x.1 := by
        have hin : ∀ (e' : Int) (t : List Rg), validGo e' t = true → x ∈ t → e' ≤ x.1 ∧ 1 ≤ x.2 := by
          intro e' t
          induction t generalizing e' with
          | nil => intro _ h; cases h
          | cons s u ihu =>
            intro hv hxm
            simp only [validGo, Bool.and_eq_true, okR_iff] at hv
            obtain ⟨⟨s1, s2, s3, s4⟩, s5⟩ := hv
            rcases List.mem_cons.1 hxm with rfl | hxm
            · exact ⟨s1, s3⟩
            · have := ihu _ s5 hxm; omega
        exact (hin _ t a5 hx).1
      have hx2 : 1 ≤ x.2 := by
        have hin : ∀ (e' : Int) (t : List Rg), validGo e' t = true → x ∈ t → 1 ≤ x.2 := by
          intro e' t
          induction t generalizing e' with
          | nil => intro _ h; cases h
          | cons s u ihu =>
            intro hv hxm
            simp only [validGo, Bool.and_eq_true, okR_iff] at hv
            obtain ⟨⟨s1, s2, s3, s4⟩, s5⟩ := hv
            rcases List.mem_cons.1 hxm with rfl | hxm
            · exact s3
            · exact ihu _ s5 hxm
        exact hin _ t a5 hx
      simp [inR]; omega
theorem cov_eq (l : List Rg) (r : Rg) : covB l r = rcovB l r := by
  unfold covB rcovB
  rcases ho : okR 0 r with _ | _
  · rfl
  · rw [okR_iff] at ho
    simp only [Bool.true_and]
    unfold setL
    rcases hv : validL l with _ | _
    · simp
    · simp only [if_true, Bool.true_and]
      rw [Bool.eq_iff_iff, allFrom_iff, List.any_eq_true]
      constructor
      · rintro ⟨x, hx, hc⟩ i h1 h2
        simp only [covR, decide_eq_true_eq] at hc
        exact List.any_eq_true.2 ⟨x, hx, (inR_iff _ _).2 (by omega)⟩
      · intro h
        have h1 := h r.1 (by omega) (by omega)
        obtain ⟨x, hx, hin⟩ := List.any_eq_true.1 h1
        rw [inR_iff] at hin
        refine ⟨x, hx, ?_⟩
        simp only [covR, decide_eq_true_eq]
        refine ⟨hin.1, ?_⟩
        by_cases hlt : r.1 + r.2 ≤ x.1 + x.2
        · exact hlt
        · have h2 := h (x.1 + x.2) (by omega) (by omega)
          rw [end_free 0 l hv x hx] at h2
          cases h2
end Go.Proofs.Ytebeaghombjooaa

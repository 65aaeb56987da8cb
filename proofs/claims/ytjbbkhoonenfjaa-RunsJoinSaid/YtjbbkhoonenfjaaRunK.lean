/- RunsJoin: the plain law. -/
import Derived.Test.YtjbbkhoonenfjaaRunJ
import Derived.Test.YtjbbkhoonenfjaaRegQ
import Derived.Deep.DeepCutAuto
set_option linter.unusedVariables false
set_option linter.unusedSimpArgs false
namespace Go.Proofs.Ytjbbkhoonenfjaa
open Go.RowKit

theorem own_off {w w' : World} {base : Nat} {e : TypeId} {size n : Nat} {v : Value} {xs : List Value} {row : Option Nat} (h : w.ownsRow base e size v n xs) (hg : w.grownBy w' row) (hne : ∀ b, v.ownBlock = some b → row ≠ some b) : w'.ownsRow base e size v n xs := by
  refine ⟨h.1, ?_⟩
  rcases h.2 with hn | ⟨g, cap, cur, rfl, hb', hgg, rest⟩
  · exact .inl hn
  · refine .inr ⟨g, cap, cur, rfl, hb', ?_, rest⟩
    rw [hg.block g (Array.getElem?_eq_some_iff.1 hgg).1 (fun e => hne g rfl e.symm)]
    exact hgg
/-- Two rows in different blocks. -/
def Apart (v u : Value) : Prop := ∀ b, v.ownBlock = some b → u.ownBlock ≠ some b
theorem Apart.symm {v u : Value} (h : Apart v u) : Apart u v := fun b hb hv => h b hv hb
theorem Apart.next {w : World} {base n : Nat} {e : TypeId} {size : Nat} {v v' u : Value} {xs : List Value} (h : Apart v u) (hu : w.ownsRow base e size u n xs) (hn : OwnNext w v v') : Apart v' u := by
  intro b hb hub
  rcases hn with h1 | ⟨g, h1, h2⟩
  · rw [h1] at hb; exact h b hb hub
  · rw [h1] at hb; injection hb with hb; subst hb
    have := (hu.lt g hub).2
    omega

def ijL (cs xs : List Int) : List Ij := (cs.zip (xs.map (· % 4))).take 12
theorem ijL_length (cs xs : List Int) : (ijL cs xs).length = min 12 (min cs.length xs.length) := by simp [ijL]
theorem ijL_get (cs xs : List Int) (k : Nat) (h : k < (ijL cs xs).length) : (ijL cs xs)[k] = (cs.getD k 0, xs.getD k 0 % 4) := by
  have hl := h
  rw [ijL_length] at hl
  simp only [ijL, List.getElem_take, List.getElem_zip, List.getElem_map]
  rw [List.getD, List.getElem?_eq_getElem (by omega), List.getD, List.getElem?_eq_getElem (by omega)]
  rfl
/-- Whether all runs are maximal and have 1 to 100 values, p being the value ahead. -/
def gdA (p : Option Int) : List Ij → Bool
  | [] => true
  | r :: l => if r.1 < 1 ∨ 100 < r.1 ∨ p = some r.2 then false else gdA (some r.2) l
def lastP (p : Option Int) (a : List Ij) : Option Int := match a.getLast? with | none => p | some x => some x.2
theorem gdA_snoc (a : List Ij) (r : Ij) (p : Option Int) : gdA p (a ++ [r]) = (gdA p a && !decide (lastP p a = some r.2 ∨ r.1 < 1 ∨ 100 < r.1)) := by
  induction a generalizing p with
  | nil =>
    simp only [List.nil_append, gdA, lastP, List.getLast?_nil, Bool.true_and]
    split
    · rename_i h
      have h2 : p = some r.2 ∨ r.1 < 1 ∨ 100 < r.1 := by rcases h with h | h | h <;> simp [h]
      simp [h2]
    · rename_i h
      have h2 : ¬ (p = some r.2 ∨ r.1 < 1 ∨ 100 < r.1) := fun k => h (by rcases k with k | k | k <;> simp [k])
      simp only [h2, decide_false, Bool.not_false]
  | cons x a ih =>
    simp only [List.cons_append, gdA]
    split
    · simp
    · rw [ih]
      congr 3
      cases a with
      | nil => simp [lastP]
      | cons y a => simp [lastP, List.getLast?_cons]
theorem lastP_take (l : List Ij) (k : Nat) (hk : k ≤ l.length) : lastP none (l.take k) = prevOf l k := by
  rcases k with _ | k
  · simp [lastP, prevOf]
  · rw [prevOf, if_neg (by omega), List.take_succ_eq_append_getElem (by omega), lastP, List.getLast?_concat, Nat.add_sub_cancel, List.getElem?_eq_getElem (by omega)]
    rfl
theorem gdA_step (l : List Ij) (k : Nat) (hk : k < l.length) : gdA none (l.take (k + 1)) = (gdA none (l.take k) && !decide (prevOf l k = some l[k].2 ∨ l[k].1 < 1 ∨ 100 < l[k].1)) := by
  rw [List.take_succ_eq_append_getElem hk, gdA_snoc, lastP_take l k (by omega)]
theorem jOk_gdA (l : List Ij) (L : Int) (p : Option Int) (hL : 100 * (l.length : Int) ≤ L) (hc : ∀ r ∈ l, r.1 ≤ 100) : jOk L p l = gdA p l := by
  induction l generalizing L p with
  | nil => rfl
  | cons r l ih =>
    have h1 := hc r (by simp)
    simp only [List.length_cons] at hL
    unfold jOk gdA
    by_cases hb : r.1 < 1 ∨ p = some r.2
    · rw [if_pos (by rcases hb with h | h <;> simp [h]), if_pos (by rcases hb with h | h <;> simp [h])]
    · rw [if_neg (by intro h; rcases h with h | h | h <;> first | exact hb (.inl h) | exact hb (.inr h) | omega), if_neg (by intro h; rcases h with h | h | h <;> first | exact hb (.inl h) | exact hb (.inr h) | omega)]
      exact ih _ _ (by omega) (fun x hx => hc x (by simp [hx]))
theorem gdA_tot (l : List Ij) (p : Option Int) (h : gdA p l = true) : tot (toRn l) ≤ 100 * l.length := by
  induction l generalizing p with
  | nil => simp [toRn, tot]
  | cons r l ih =>
    unfold gdA at h
    split at h
    · cases h
    · rename_i hb
      have := ih _ h
      simp only [toRn, List.map_cons, tot, List.length_cons] at this ⊢
      omega
theorem toRn_expand_snoc (l : List Ij) (k : Nat) (hk : k < l.length) : expand (toRn (l.take (k + 1))) = expand (toRn (l.take k)) ++ List.replicate l[k].1.toNat l[k].2 := by
  rw [List.take_succ_eq_append_getElem hk, toRn, List.map_append, expand_append]
  simp [toRn, expand]
theorem ijCells_snoc (l : List Ij) (k : Nat) (hk : k < l.length) : ijCells (l.take (k + 1)) = ijCells (l.take k) ++ [.int .i64 l[k].1, .int .i64 l[k].2] := by
  rw [List.take_succ_eq_append_getElem hk, ijCells_append]
  simp [ijCells, ijRow]
theorem i64s_snoc (V : List Int) (x : Int) : i64s (V ++ [x]) = i64s V ++ [.int .i64 x] := by simp
end Go.Proofs.Ytjbbkhoonenfjaa

/- Layer 22: the plain law of an identification's states. -/
import Derived.Test.YtpbmolijoadonaaIdA
set_option linter.unusedVariables false
set_option linter.unusedSimpArgs false
namespace Go.Proofs.Ytpbmolijoadonaa
open Go.RowKit

theorem asc_app (p : Int) (a b : List Int) : asc p (a ++ b) = (asc p a && asc (lastOf p a) b) := by
  induction a generalizing p with
  | nil => simp [asc, lastOf]
  | cons y t ih => simp only [List.cons_append, asc, lastOf, ih, Bool.and_assoc]
theorem asc_mono {p q : Int} {l : List Int} (h : asc q l = true) (hp : p ≤ q) : asc p l = true := by
  cases l with
  | nil => rfl
  | cons y t =>
    simp only [asc, Bool.and_eq_true, decide_eq_true_eq] at h ⊢
    exact ⟨by omega, h.2⟩
theorem lastOf_app (p q : Int) (a b : List Int) (hb : b ≠ []) : lastOf p (a ++ b) = lastOf q b := by
  induction a generalizing p with
  | nil => cases b with
    | nil => exact absurd rfl hb
    | cons y t => rfl
  | cons y t ih => exact ih y
def cids (l : List (Int × List Int)) : List Int := l.map (·.1)
theorem cids_con (l : List Ob) : cids (con l) = ids l := by simp [cids, con, ids]
theorem cids_app (a b : List (Int × List Int)) : cids (a ++ b) = cids a ++ cids b := by simp [cids]
def EOk (S : Ist) : Prop := asc (-1) (cids S.os) = true ∧ (∀ x ∈ S.os, x.2.length ≤ 300) ∧ S.os.length ≤ 40 * S.cnt ∧ S.cnt ≤ 32
/-- What holds behind k replies. -/
def EInv (k : Nat) (S : Ist) : Prop := EOk S ∧ ((S.st = 0 ∧ S.cnt = k ∧ (0 ≤ S.ask ∧ S.ask ≤ 9223372036854775807) ∧ lastOf (-1) (cids S.os) < S.ask ∧ k < 32) ∨ (S.st = 2 ∧ S.os ≠ []) ∨ S.st = 4 ∨ S.st = 5)
theorem e_zero : EInv 0 ⟨0, 0, 0, 0, []⟩ := ⟨⟨rfl, by simp, by simp, by simp⟩, .inl ⟨rfl, rfl, by decide, by decide, by decide⟩⟩
theorem e_step {k : Nat} {S : Ist} {o : Oc} (h : EInv k S) (h0 : S.st = 0) (hos : o.os.length ≤ 40) (hv : ∀ x ∈ o.os, x.val.length ≤ 300) (hN : o.N ≤ 9223372036854775807) : EInv (k + 1) (stepI S o) := by
  obtain ⟨⟨e1, e2, e3, e4⟩, h⟩ := h
  rcases h with ⟨_, hc, ⟨a1, a2⟩, hla, hk⟩ | ⟨h2, _⟩ | h2 | h2
  · unfold stepI
    by_cases hA : o.V = 2 ∧ o.E = 1 ∧ S.cnt = 0
    · rw [if_pos hA]; exact ⟨⟨e1, e2, e3, e4⟩, .inr (.inr (.inr rfl))⟩
    · rw [if_neg hA]
      by_cases hB : goodB o S.ask = false ∨ (0 < S.cnt ∧ o.L ≠ S.lv)
      · rw [if_pos hB]; exact ⟨⟨e1, e2, e3, e4⟩, .inr (.inr (.inl rfl))⟩
      · rw [if_neg hB]
        have hg : goodB o S.ask = true := by
          cases hgb : goodB o S.ask
          · exact absurd (.inl hgb) hB
          · rfl
        simp only [goodB, ordB, Bool.and_eq_true, Bool.or_eq_true, decide_eq_true_eq, Bool.not_eq_true'] at hg
        obtain ⟨_, ⟨g1, g2⟩, g3⟩ := hg
        have hne : ids o.os ≠ [] := by intro e; rw [e] at g2; simp at g2
        have hon : o.os ≠ [] := by intro e; rw [e] at hne; exact hne rfl
        have hasc : asc (-1) (cids (S.os ++ con o.os)) = true := by
          rw [cids_app, cids_con, asc_app, e1]
          simpa using asc_mono g1 (by omega)
        have hlast : lastOf (-1) (cids (S.os ++ con o.os)) = lastOf (S.ask - 1) (ids o.os) := by
          rw [cids_app, cids_con]; exact lastOf_app _ _ _ _ hne
        have hok : ∀ x ∈ S.os ++ con o.os, x.2.length ≤ 300 := by
          intro x hx
          rcases List.mem_append.1 hx with hx | hx
          · exact e2 x hx
          · obtain ⟨y, hy, rfl⟩ := List.mem_map.1 hx
            exact hv y hy
        have hln : (S.os ++ con o.os).length ≤ 40 * (S.cnt + 1) := by simp only [List.length_append, con, List.length_map]; omega
        refine ⟨⟨hasc, hok, hln, by show S.cnt + 1 ≤ 32; omega⟩, ?_⟩
        by_cases hM : o.M = false
        · refine .inr (.inl ⟨by show (if o.M = false then (2 : Int) else _) = 2; rw [if_pos hM], ?_⟩)
          show S.os ++ con o.os ≠ []
          intro e
          have := (List.append_eq_nil_iff.1 e).2
          simp [con] at this
          exact hon this
        · by_cases h32 : S.cnt + 1 = 32
          · exact .inr (.inr (.inl (by show (if o.M = false then (2 : Int) else if S.cnt + 1 = 32 then 4 else 0) = 4; rw [if_neg hM, if_pos h32])))
          · have hNl : lastOf (S.ask - 1) (ids o.os) < o.N := g3.resolve_left hM
            have hle := asc_le _ _ g1
            exact .inl ⟨by show (if o.M = false then (2 : Int) else if S.cnt + 1 = 32 then 4 else 0) = 0; rw [if_neg hM, if_neg h32], by show S.cnt + 1 = k + 1; omega, ⟨by show 0 ≤ o.N; omega, hN⟩, by show lastOf (-1) (cids (S.os ++ con o.os)) < o.N; rw [hlast]; exact hNl, by omega⟩
  · omega
  · omega
  · omega
theorem e_asc {p : Int} {l : List Int} (h : asc p l = true) (k : Nat) (hk : k + 1 < l.length) : l[k] < l[k + 1] := by
  induction l generalizing p k with
  | nil => simp at hk
  | cons y t ih =>
    simp only [asc, Bool.and_eq_true, decide_eq_true_eq] at h
    cases k with
    | zero =>
      cases t with
      | nil => simp at hk
      | cons z s =>
        have h2 := h.2
        simp only [asc, Bool.and_eq_true, decide_eq_true_eq] at h2
        simpa using h2.1
    | succ k => simpa using ih h.2 k (by simpa using hk)
end Go.Proofs.Ytpbmolijoadonaa

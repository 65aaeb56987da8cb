/- IdentSlave in plain words: a round with the reply of a valid slave. -/
import Derived.Test.YtpbmolijoadonaaIdA
import Derived.Test.YtpbmolijoadonaaSlL
set_option linter.unusedVariables false
set_option linter.unusedSimpArgs false
namespace Go.Proofs.Ytpbmolijoadonaa
open Go.RowKit

theorem risGo_lt (p : Int) (l : List Ob) (h : risGo p l = true) : ∀ o ∈ l, p < o.id := by
  induction l generalizing p with
  | nil => intro o ho; cases ho
  | cons y t ih =>
    simp only [risGo, Bool.and_eq_true, decide_eq_true_eq] at h
    intro o ho
    rcases List.mem_cons.1 ho with rfl | ho
    · exact h.1.2.2
    · have := ih _ h.2 o ho; have := h.1.2.2; omega
theorem filOb_all (a : Int) (l : List Ob) (h : ∀ o ∈ l, a ≤ o.id ∧ o.id ≤ 255) : filOb a l = l := by
  unfold filOb
  rw [List.filter_eq_self]
  intro o ho
  obtain ⟨h1, h2⟩ := h o ho
  simp [h1, h2]
/-- In a rising list the objects from the k-th on are those whose numbers are not less than its number. -/
theorem filOb_drop (p : Int) (l : List Ob) (h : risGo p l = true) (k : Nat) (hk : k < l.length) : filOb l[k].id l = l.drop k := by
  induction l generalizing p k with
  | nil => cases hk
  | cons y t ih =>
    have h0 := h
    simp only [risGo, Bool.and_eq_true, decide_eq_true_eq] at h
    rcases k with _ | k
    · refine filOb_all _ _ fun o ho => ⟨?_, (risGo_ids p _ h0 o ho).2⟩
      rcases List.mem_cons.1 ho with rfl | ho
      · exact Int.le_refl _
      · have := risGo_lt _ _ h.2 o ho; show y.id ≤ o.id; omega
    · have hk' : k < t.length := by simpa using hk
      have hlt := risGo_lt _ _ h.2 t[k] (List.getElem_mem hk')
      have := ih _ h.2 k hk'
      simp only [List.getElem_cons_succ, List.drop_succ_cons]
      rw [← this]
      unfold filOb
      rw [List.filter_cons_of_neg (by simp; omega)]
/-- The state of the identification of a slave with objects l, k of which have come. -/
def InvS (lv : Int) (l : List Ob) (T : Ist) (k : Nat) : Prop :=
  T.st = 0 ∧ 0 ≤ T.ask ∧ T.ask ≤ 255 ∧ k < l.length ∧ filOb T.ask l = l.drop k ∧ T.os = con (l.take k) ∧ T.cnt ≤ k ∧ (0 < T.cnt → T.lv = lv) ∧ (0 < k → 0 < T.cnt)
theorem asc_ris (p : Int) (l : List Ob) (h : risGo p l = true) : asc p (ids l) = true := by
  induction l generalizing p with
  | nil => rfl
  | cons y t ih =>
    simp only [risGo, Bool.and_eq_true, decide_eq_true_eq] at h
    simp only [ids, List.map_cons, asc, Bool.and_eq_true, decide_eq_true_eq]
    exact ⟨h.1.2.2, ih _ h.2⟩
theorem risGo_weak (p q : Int) (l : List Ob) (h : risGo p l = true) (hq : ∀ o ∈ l, q < o.id) : risGo q l = true := by
  cases l with
  | nil => rfl
  | cons y t =>
    simp only [risGo, Bool.and_eq_true, decide_eq_true_eq] at h ⊢
    exact ⟨⟨h.1.1, h.1.2.1, hq y (List.mem_cons_self ..)⟩, h.2⟩
theorem risGo_drop (p : Int) (l : List Ob) (k : Nat) (h : risGo p l = true) : ∃ q, p ≤ q ∧ risGo q (l.drop k) = true := by
  induction l generalizing p k with
  | nil => exact ⟨p, Int.le_refl _, by simp [risGo]⟩
  | cons y t ih =>
    have h0 := h
    simp only [risGo, Bool.and_eq_true, decide_eq_true_eq] at h
    rcases k with _ | k
    · exact ⟨p, Int.le_refl _, h0⟩
    · obtain ⟨q, hq, hr⟩ := ih y.id k h.2
      exact ⟨q, by omega, hr⟩
theorem ids_take (l : List Ob) (n : Nat) : ids (l.take n) = (ids l).take n := by simp [ids, List.map_take]
theorem lastOf_lt (p : Int) (l : List Ob) (n : Nat) (h : risGo p l = true) (hn : n < l.length) : lastOf p (ids (l.take n)) < l[n].id := by
  induction l generalizing p n with
  | nil => cases hn
  | cons y t ih =>
    simp only [risGo, Bool.and_eq_true, decide_eq_true_eq] at h
    rcases n with _ | n
    · exact h.1.2.2
    · simp only [List.take_succ_cons, ids, List.map_cons, lastOf, List.getElem_cons_succ]
      exact ih y.id n h.2 (by simpa using hn)
theorem con_ids {l m : List Ob} (h : l.map (fun o => (o.id, o.val)) = m.map (fun o => (o.id, o.val))) : ids l = ids m ∧ con l = con m := by
  refine ⟨?_, h⟩
  have := congrArg (List.map Prod.fst) h
  simpa [ids, List.map_map, Function.comp_def] using this
/-- A round: the reply of the slave brings the next objects. -/
theorem inv_step (lv : Int) (l : List Ob) (T : Ist) (k : Nat) (hl : l.length ≤ 16) (hris : rising l = true) (h64 : ∀ o ∈ l, o.n ≤ 64) (hT : InvS lv l T k) (o : Oc) (hV : o.V = 1) (hF : o.F = 43) (hL : o.L = lv)
    (n : Nat) (hn : n = cutN (filOb T.ask l) (filOb T.ask l).length) (hM : o.M = decide (n < (filOb T.ask l).length)) (hN : o.N = nextId (filOb T.ask l) n) (hos : o.os.map (fun o => (o.id, o.val)) = ((filOb T.ask l).take n).map (fun o => (o.id, o.val))) :
    (o.M = false ∧ (stepI T o).st = 2 ∧ (stepI T o).lv = lv ∧ (stepI T o).os = con l) ∨ (o.M = true ∧ ∃ k', k < k' ∧ InvS lv l (stepI T o) k') := by
  obtain ⟨h0, ha1, ha2, hk, hfil, hTos, hcnt, hlv, hkc⟩ := hT
  rw [hfil] at hn hM hN hos
  have hlen : (l.drop k).length = l.length - k := by simp
  have hpos : 0 < n := by
    rw [hn]
    refine cutN_pos _ _ (by omega) ?_
    rcases hd : l.drop k with _ | ⟨y, t⟩
    · simp [sizeGo]
    · have hy := h64 y (List.mem_of_mem_drop (i := k) (by rw [hd]; exact List.mem_cons_self ..))
      simp only [List.take_succ_cons, List.take_zero, sizeGo]
      simp; omega
  have hle : n ≤ (l.drop k).length := by rw [hn]; exact cutN_le _ _
  obtain ⟨hids, hcon⟩ := con_ids hos
  have hge : ∀ x ∈ l.drop k, T.ask - 1 < x.id := fun x hx => by
    rw [← hfil] at hx
    have := (List.mem_filter.1 hx).2
    simp at this; omega
  obtain ⟨q, _, hq⟩ := risGo_drop (-1) l k hris
  have hr := risGo_weak q (T.ask - 1) _ hq hge
  have hgood : goodB o T.ask = true := by
    unfold goodB ordB
    rw [hids]
    simp only [hV, hF, and_self, decide_true, Bool.true_and, Bool.and_eq_true]
    refine ⟨⟨?_, ?_⟩, ?_⟩
    · rw [ids_take]; exact asc_take _ _ _ (asc_ris _ _ hr)
    · rcases hd : l.drop k with _ | ⟨y, t⟩
      · rw [hd] at hlen; simp at hlen; omega
      · obtain ⟨n', rfl⟩ : ∃ n', n = n' + 1 := ⟨n - 1, by omega⟩
        simp [ids]
    · by_cases hm : n < (l.drop k).length
      · rw [hM, decide_eq_true hm, hN, nextId, if_pos hm, List.getElem?_eq_getElem hm]
        simp only [Bool.not_true, Bool.false_or, decide_eq_true_eq, Option.map_some, Option.getD_some]
        exact lastOf_lt _ _ _ hr hm
      · rw [hM, decide_eq_false hm]; rfl
  have hstep : stepI T o = ⟨if o.M = false then 2 else if T.cnt + 1 = 32 then 4 else 0, o.L, o.N, T.cnt + 1, T.os ++ con o.os⟩ := by
    unfold stepI
    rw [if_neg (by rw [hV]; omega), if_neg]
    rintro (h | ⟨h1, h2⟩)
    · rw [hgood] at h; cases h
    · exact h2 (by rw [hL, hlv h1])
  have hos2 : T.os ++ con o.os = con (l.take (k + n)) := by
    rw [hTos, hcon]
    simp only [con, ← List.map_append]
    congr 1
    rw [List.take_add]
  by_cases hm : n < (l.drop k).length
  · have hMt : o.M = true := by rw [hM]; exact decide_eq_true hm
    have hkn : k + n < l.length := by omega
    refine .inr ⟨hMt, k + n, by omega, ?_⟩
    have hNv : o.N = l[k + n].id := by
      rw [hN, nextId, if_pos hm, List.getElem?_eq_getElem hm]
      simp
    have hb := risGo_ids (-1) l hris l[k + n] (List.getElem_mem hkn)
    rw [hstep, if_neg (by rw [hMt]; decide), if_neg (by omega)]
    exact ⟨rfl, by show 0 ≤ o.N; rw [hNv]; exact hb.1, by show o.N ≤ 255; rw [hNv]; exact hb.2, hkn, by show filOb o.N l = _; rw [hNv]; exact filOb_drop (-1) l hris _ hkn, hos2, by show T.cnt + 1 ≤ k + n; omega, fun _ => hL, fun _ => by show 0 < T.cnt + 1; omega⟩
  · have hMf : o.M = false := by rw [hM]; exact decide_eq_false hm
    refine .inl ⟨hMf, ?_, ?_, ?_⟩
    · rw [hstep, if_pos hMf]
    · rw [hstep]; exact hL
    · rw [hstep]
      show T.os ++ con o.os = con l
      rw [hos2, List.take_of_length_le (by omega)]
theorem inv_start (lv : Int) (l : List Ob) (hl : 0 < l.length) (hris : rising l = true) : InvS lv l ⟨0, 0, 0, 0, []⟩ 0 :=
  ⟨rfl, by decide, by decide, hl, filOb_all 0 l (fun o ho => risGo_ids (-1) l hris o ho), rfl, Nat.le_refl _, (fun h => by cases h), (fun h => by cases h)⟩
end Go.Proofs.Ytpbmolijoadonaa

/- The reference's device: the memory while the objects are copied. -/
import Derived.Test.YtpbmolijoadonaaSlJ
import Derived.Test.YtpbmolijoadonaaLib4
set_option linter.unusedVariables false
set_option linter.unusedSimpArgs false
namespace Go.Proofs.Ytpbmolijoadonaa
open Go.RowKit

theorem own_off2 {w w' : World} {base : Nat} {e : TypeId} {size n : Nat} {v : Value} {xs : List Value} {row : Option Nat} (h : w.ownsRow base e size v n xs) (hg : w.grownBy w' row) (hne : ∀ b, v.ownBlock = some b → row ≠ some b) : w'.ownsRow base e size v n xs := by
  refine ⟨h.1, ?_⟩
  rcases h.2 with hn | ⟨b, cap, cur, rfl, hb', hgg, rest⟩
  · exact .inl hn
  · refine .inr ⟨b, cap, cur, rfl, hb', ?_, rest⟩
    rw [hg.block b (Array.getElem?_eq_some_iff.1 hgg).1 (fun e => hne b rfl e.symm)]
    exact hgg
/-- While the objects are copied: the blocks, the filtered list, the reply's list and what its objects read. -/
def D3 (w0 x : World) (S : Sl) (ask lv : Int) (vf : Value) (m : Nat) (fil : List Ob) (vr : Value) (os : List Ob) (c7 : Value) : Prop :=
  DvS w0 x S ask #[.int .i64 43, .int .i64 0, .slice none 0 0, .int .i64 3, .int .i64 lv, .bool false, .int .i64 0, c7] ∧ x.ownsRow (w0.heap.size + 4) 48 2 vf m (obCells fil) ∧ x.ownsRow (w0.heap.size + 4) 48 2 vr os.length (obCells os) ∧ (∀ b, vr.ownBlock = some b → vf.ownBlock ≠ some b) ∧
  (∀ o ∈ os, Rd x x.heap.size 1 o.A o.n (by8 o.val) ∧ ∀ b off, o.A = some ⟨b, off, none⟩ → w0.heap.size + 4 ≤ b ∧ b < x.heap.size ∧ some b ≠ vr.ownBlock)
theorem D3.below {w0 x x' : World} {S : Sl} {ask lv : Int} {vf vr c7 : Value} {m : Nat} {fil os : List Ob} (h : D3 w0 x S ask lv vf m fil vr os c7) (hb : Below x.heap.size x x') : D3 w0 x' S ask lv vf m fil vr os c7 := by
  obtain ⟨h1, h2, h3, h4, h5⟩ := h
  exact ⟨h1.below hb, own_below h2 hb (Nat.le_refl _), own_below h3 hb (Nat.le_refl _), h4, fun o ho => ⟨((h5 o ho).1.below hb (Nat.le_refl _)).more hb.size, fun b off e => by
    obtain ⟨a, b2, c⟩ := (h5 o ho).2 b off e
    exact ⟨a, Nat.lt_of_lt_of_le b2 hb.size, c⟩⟩⟩
theorem D3.set7 {w0 x : World} {S : Sl} {ask lv : Int} {vf vr c7 u : Value} {m : Nat} {fil os : List Ob} (h : D3 w0 x S ask lv vf m fil vr os c7) : D3 w0 (x.setCell ⟨w0.heap.size + 3, 7, none⟩ u) S ask lv vf m fil vr os u := by
  obtain ⟨h1, h2, h3, h4, h5⟩ := h
  have hg := one_set (one_refl x (w0.heap.size + 3)) 7 u
  refine ⟨h1.set (by simp) rfl, ownsRow_setCell_below h2 (show w0.heap.size + 3 < w0.heap.size + 4 by omega) _, ownsRow_setCell_below h3 (show w0.heap.size + 3 < w0.heap.size + 4 by omega) _, h4, fun o ho => ⟨((h5 o ho).1.off_row hg (Nat.le_refl _) (fun b off e e2 => ?_)).more hg.size, fun b off e => ?_⟩⟩
  · injection e2 with e2
    have := ((h5 o ho).2 b off e).1
    omega
  · obtain ⟨a, b2, c⟩ := (h5 o ho).2 b off e
    exact ⟨a, Nat.lt_of_lt_of_le b2 hg.size, c⟩
/-- An object is appended to the reply's list. -/
theorem D3.app {w0 x x' : World} {S : Sl} {ask lv : Int} {vf vr vr' c7 : Value} {m : Nat} {fil os : List Ob} {o : Ob} (h : D3 w0 x S ask lv vf m fil vr os c7)
    (hown : x'.ownsRow (w0.heap.size + 4) 48 2 vr' (os.length + 1) (obCells os ++ [.int .i64 o.id, .slice o.A o.n o.c])) (hg : x.grownBy x' vr.ownBlock) (hn : OwnNext x vr vr')
    (ho : Rd x x.heap.size 1 o.A o.n (by8 o.val)) (hb : ∀ b off, o.A = some ⟨b, off, none⟩ → w0.heap.size + 4 ≤ b ∧ b < x.heap.size ∧ some b ≠ vr.ownBlock) : D3 w0 x' S ask lv vf m fil vr' (os ++ [o]) c7 := by
  obtain ⟨h1, h2, h3, h4, h5⟩ := h
  have hnew : vr'.ownBlock = vr.ownBlock ∨ ∃ b, vr'.ownBlock = some b ∧ x.heap.size ≤ b := hn
  have mv : ∀ y : Ob, (Rd x x.heap.size 1 y.A y.n (by8 y.val) ∧ ∀ b off, y.A = some ⟨b, off, none⟩ → w0.heap.size + 4 ≤ b ∧ b < x.heap.size ∧ some b ≠ vr.ownBlock) → (Rd x' x'.heap.size 1 y.A y.n (by8 y.val) ∧ ∀ b off, y.A = some ⟨b, off, none⟩ → w0.heap.size + 4 ≤ b ∧ b < x'.heap.size ∧ some b ≠ vr'.ownBlock) := fun y hy => by
    refine ⟨(hy.1.off_row hg (Nat.le_refl _) (fun b off e => (hy.2 b off e).2.2)).more hg.size, fun b off e => ?_⟩
    obtain ⟨a, b2, c⟩ := hy.2 b off e
    refine ⟨a, Nat.lt_of_lt_of_le b2 hg.size, ?_⟩
    rcases hnew with e2 | ⟨z, e2, hz⟩
    · rw [e2]; exact c
    · rw [e2]; intro e3; injection e3 with e3; omega
  refine ⟨h1.row h3 (Nat.le_refl _) hg, own_off2 h2 hg (fun b hb2 e => h4 b e hb2), ?_, fun b hb2 e => ?_, fun y hy => ?_⟩
  · rw [List.length_append, sobCells_snoc]; exact hown
  · rcases hnew with e2 | ⟨z, e2, hz⟩
    · exact h4 b (by rw [← e2]; exact hb2) e
    · rw [e2] at hb2; injection hb2 with hb2; have := (h2.lt b e).2; omega
  · rcases List.mem_append.1 hy with hy | hy
    · exact mv y (h5 y hy)
    · obtain rfl : y = o := by simpa using hy
      exact mv y ⟨ho, hb⟩
/-- Behind the copy: the reply's cells are rep. -/
def D4 (w0 x : World) (S : Sl) (ask : Int) (vr : Value) (os : List Ob) (rep : Array Value) : Prop :=
  DvS w0 x S ask rep ∧ x.ownsRow (w0.heap.size + 4) 48 2 vr os.length (obCells os) ∧ (∀ o ∈ os, Rd x x.heap.size 1 o.A o.n (by8 o.val) ∧ ∀ b off, o.A = some ⟨b, off, none⟩ → w0.heap.size + 4 ≤ b)
theorem D3.to4 {w0 x : World} {S : Sl} {ask lv : Int} {vf vr c7 : Value} {m : Nat} {fil os : List Ob} (h : D3 w0 x S ask lv vf m fil vr os c7) : D4 w0 x S ask vr os #[.int .i64 43, .int .i64 0, .slice none 0 0, .int .i64 3, .int .i64 lv, .bool false, .int .i64 0, c7] :=
  ⟨h.1, h.2.2.1, fun o ho => ⟨(h.2.2.2.2 o ho).1, fun b off e => ((h.2.2.2.2 o ho).2 b off e).1⟩⟩
theorem D4.below {w0 x x' : World} {S : Sl} {ask : Int} {vr : Value} {os : List Ob} {rep : Array Value} (h : D4 w0 x S ask vr os rep) (hb : Below x.heap.size x x') : D4 w0 x' S ask vr os rep := by
  obtain ⟨h1, h2, h3⟩ := h
  exact ⟨h1.below hb, own_below h2 hb (Nat.le_refl _), fun o ho => ⟨((h3 o ho).1.below hb (Nat.le_refl _)).more hb.size, (h3 o ho).2⟩⟩
theorem D4.set {w0 x : World} {S : Sl} {ask : Int} {vr u : Value} {os : List Ob} {rep rep' : Array Value} {k : Nat} (h : D4 w0 x S ask vr os rep) (hk : k < rep.size) (e : rep.setIfInBounds k u = rep') : D4 w0 (x.setCell ⟨w0.heap.size + 3, k, none⟩ u) S ask vr os rep' := by
  obtain ⟨h1, h2, h3⟩ := h
  have hg := one_set (one_refl x (w0.heap.size + 3)) k u
  refine ⟨h1.set hk e, ownsRow_setCell_below h2 (show w0.heap.size + 3 < w0.heap.size + 4 by omega) _, fun o ho => ⟨((h3 o ho).1.off_row hg (Nat.le_refl _) (fun b off e1 e2 => ?_)).more hg.size, (h3 o ho).2⟩⟩
  injection e2 with e2
  have := (h3 o ho).2 b off e1
  omega
/-- What stands when the reply has been copied into the result. -/
theorem D4.fin {w0 x : World} {S : Sl} {ask : Int} {A : Option Addr} {n c : Nat} {os : List Ob} {rep : Array Value} (h : D4 w0 x S ask (.slice A n c) os rep) (v0 v1 v2 v3 v4 v5 v6 v7 : Value) :
    Box ((((((((x.setCell ⟨w0.heap.size + 2, 0, none⟩ v0).setCell ⟨w0.heap.size + 2, 1, none⟩ v1).setCell ⟨w0.heap.size + 2, 2, none⟩ v2).setCell ⟨w0.heap.size + 2, 3, none⟩ v3).setCell ⟨w0.heap.size + 2, 4, none⟩ v4).setCell ⟨w0.heap.size + 2, 5, none⟩ v5).setCell ⟨w0.heap.size + 2, 6, none⟩ v6).setCell ⟨w0.heap.size + 2, 7, none⟩ v7) (w0.heap.size + 2) #[v0, v1, v2, v3, v4, v5, v6, v7] ∧ Below w0.heap.size w0 ((((((((x.setCell ⟨w0.heap.size + 2, 0, none⟩ v0).setCell ⟨w0.heap.size + 2, 1, none⟩ v1).setCell ⟨w0.heap.size + 2, 2, none⟩ v2).setCell ⟨w0.heap.size + 2, 3, none⟩ v3).setCell ⟨w0.heap.size + 2, 4, none⟩ v4).setCell ⟨w0.heap.size + 2, 5, none⟩ v5).setCell ⟨w0.heap.size + 2, 6, none⟩ v6).setCell ⟨w0.heap.size + 2, 7, none⟩ v7) ∧ Rd ((((((((x.setCell ⟨w0.heap.size + 2, 0, none⟩ v0).setCell ⟨w0.heap.size + 2, 1, none⟩ v1).setCell ⟨w0.heap.size + 2, 2, none⟩ v2).setCell ⟨w0.heap.size + 2, 3, none⟩ v3).setCell ⟨w0.heap.size + 2, 4, none⟩ v4).setCell ⟨w0.heap.size + 2, 5, none⟩ v5).setCell ⟨w0.heap.size + 2, 6, none⟩ v6).setCell ⟨w0.heap.size + 2, 7, none⟩ v7) ((((((((x.setCell ⟨w0.heap.size + 2, 0, none⟩ v0).setCell ⟨w0.heap.size + 2, 1, none⟩ v1).setCell ⟨w0.heap.size + 2, 2, none⟩ v2).setCell ⟨w0.heap.size + 2, 3, none⟩ v3).setCell ⟨w0.heap.size + 2, 4, none⟩ v4).setCell ⟨w0.heap.size + 2, 5, none⟩ v5).setCell ⟨w0.heap.size + 2, 6, none⟩ v6).setCell ⟨w0.heap.size + 2, 7, none⟩ v7).heap.size 2 A os.length (obCells os) ∧ (∀ b off, A = some ⟨b, off, none⟩ → w0.heap.size + 4 ≤ b) ∧ (∀ o ∈ os, Rd ((((((((x.setCell ⟨w0.heap.size + 2, 0, none⟩ v0).setCell ⟨w0.heap.size + 2, 1, none⟩ v1).setCell ⟨w0.heap.size + 2, 2, none⟩ v2).setCell ⟨w0.heap.size + 2, 3, none⟩ v3).setCell ⟨w0.heap.size + 2, 4, none⟩ v4).setCell ⟨w0.heap.size + 2, 5, none⟩ v5).setCell ⟨w0.heap.size + 2, 6, none⟩ v6).setCell ⟨w0.heap.size + 2, 7, none⟩ v7) ((((((((x.setCell ⟨w0.heap.size + 2, 0, none⟩ v0).setCell ⟨w0.heap.size + 2, 1, none⟩ v1).setCell ⟨w0.heap.size + 2, 2, none⟩ v2).setCell ⟨w0.heap.size + 2, 3, none⟩ v3).setCell ⟨w0.heap.size + 2, 4, none⟩ v4).setCell ⟨w0.heap.size + 2, 5, none⟩ v5).setCell ⟨w0.heap.size + 2, 6, none⟩ v6).setCell ⟨w0.heap.size + 2, 7, none⟩ v7).heap.size 1 o.A o.n (by8 o.val) ∧ ∀ b off, o.A = some ⟨b, off, none⟩ → w0.heap.size + 4 ≤ b) := by
  obtain ⟨h1, h2, h3⟩ := h
  have hlo : ∀ b off, A = some ⟨b, off, none⟩ → w0.heap.size + 4 ≤ b := fun b off e => by
    subst e
    exact (h2.lt b rfl).1
  have hrd : Rd x x.heap.size 2 A os.length (obCells os) := by
    obtain ⟨A', c', hv, _, hr⟩ := own_form h2
    injection hv with e1 e2 e3
    subst e1 e2 e3
    exact hr
  refine ⟨box_put8 h1.2.2.1 v0 v1 v2 v3 v4 v5 v6 v7, below_put8 h1.2.2.2.2 (show w0.heap.size ≤ w0.heap.size + 2 by omega) v0 v1 v2 v3 v4 v5 v6 v7, rd_put8 hrd (fun b off e e2 => by injection e2 with e2; have := hlo b off e; omega) v0 v1 v2 v3 v4 v5 v6 v7, hlo, fun o ho => ⟨rd_put8 (h3 o ho).1 (fun b off e e2 => by injection e2 with e2; have := (h3 o ho).2 b off e; omega) v0 v1 v2 v3 v4 v5 v6 v7, (h3 o ho).2⟩⟩
end Go.Proofs.Ytpbmolijoadonaa

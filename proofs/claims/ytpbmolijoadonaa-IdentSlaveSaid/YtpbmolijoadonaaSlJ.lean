/- The reference's device: its memory, eight cells put at once, the filter's loop. -/
import Derived.Test.YtpbmolijoadonaaSlI
import Derived.Test.YtpbmolijoadonaaSlG
set_option linter.unusedVariables false
set_option linter.unusedSimpArgs false
namespace Go.Proofs.Ytpbmolijoadonaa
open Go.RowKit

theorem box_put8 {w : World} {b : Nat} {c0 c1 c2 c3 c4 c5 c6 c7 : Value} (h : Box w b #[c0, c1, c2, c3, c4, c5, c6, c7]) (v0 v1 v2 v3 v4 v5 v6 v7 : Value) : Box ((((((((w.setCell ⟨b, 0, none⟩ v0).setCell ⟨b, 1, none⟩ v1).setCell ⟨b, 2, none⟩ v2).setCell ⟨b, 3, none⟩ v3).setCell ⟨b, 4, none⟩ v4).setCell ⟨b, 5, none⟩ v5).setCell ⟨b, 6, none⟩ v6).setCell ⟨b, 7, none⟩ v7) b #[v0, v1, v2, v3, v4, v5, v6, v7] :=
  ((((((((h.set (k := 0) (v := v0) (cs' := #[v0, c1, c2, c3, c4, c5, c6, c7]) (by simp) rfl).set (k := 1) (v := v1) (cs' := #[v0, v1, c2, c3, c4, c5, c6, c7]) (by simp) rfl).set (k := 2) (v := v2) (cs' := #[v0, v1, v2, c3, c4, c5, c6, c7]) (by simp) rfl).set (k := 3) (v := v3) (cs' := #[v0, v1, v2, v3, c4, c5, c6, c7]) (by simp) rfl).set (k := 4) (v := v4) (cs' := #[v0, v1, v2, v3, v4, c5, c6, c7]) (by simp) rfl).set (k := 5) (v := v5) (cs' := #[v0, v1, v2, v3, v4, v5, c6, c7]) (by simp) rfl).set (k := 6) (v := v6) (cs' := #[v0, v1, v2, v3, v4, v5, v6, c7]) (by simp) rfl).set (k := 7) (v := v7) (cs' := #[v0, v1, v2, v3, v4, v5, v6, v7]) (by simp) rfl)
theorem below_put8 {w0 w : World} {B b : Nat} (h : Below B w0 w) (hb : B ≤ b) (v0 v1 v2 v3 v4 v5 v6 v7 : Value) : Below B w0 ((((((((w.setCell ⟨b, 0, none⟩ v0).setCell ⟨b, 1, none⟩ v1).setCell ⟨b, 2, none⟩ v2).setCell ⟨b, 3, none⟩ v3).setCell ⟨b, 4, none⟩ v4).setCell ⟨b, 5, none⟩ v5).setCell ⟨b, 6, none⟩ v6).setCell ⟨b, 7, none⟩ v7) :=
  ((((((((h.setCell (p := ⟨b, 0, none⟩) hb v0).setCell (p := ⟨b, 1, none⟩) hb v1).setCell (p := ⟨b, 2, none⟩) hb v2).setCell (p := ⟨b, 3, none⟩) hb v3).setCell (p := ⟨b, 4, none⟩) hb v4).setCell (p := ⟨b, 5, none⟩) hb v5).setCell (p := ⟨b, 6, none⟩) hb v6).setCell (p := ⟨b, 7, none⟩) hb v7)
theorem box_off8 {w : World} {b c : Nat} {cells : Array Value} (h : Box w c cells) (hc : c ≠ b) (v0 v1 v2 v3 v4 v5 v6 v7 : Value) : Box ((((((((w.setCell ⟨b, 0, none⟩ v0).setCell ⟨b, 1, none⟩ v1).setCell ⟨b, 2, none⟩ v2).setCell ⟨b, 3, none⟩ v3).setCell ⟨b, 4, none⟩ v4).setCell ⟨b, 5, none⟩ v5).setCell ⟨b, 6, none⟩ v6).setCell ⟨b, 7, none⟩ v7) c cells :=
  ((((((((h.grown (one_set (one_refl _ b) 0 v0) hc).grown (one_set (one_refl _ b) 1 v1) hc).grown (one_set (one_refl _ b) 2 v2) hc).grown (one_set (one_refl _ b) 3 v3) hc).grown (one_set (one_refl _ b) 4 v4) hc).grown (one_set (one_refl _ b) 5 v5) hc).grown (one_set (one_refl _ b) 6 v6) hc).grown (one_set (one_refl _ b) 7 v7) hc)
theorem rd_put8 {w : World} {size n b : Nat} {A : Option Addr} {xs : List Value} (h : Rd w w.heap.size size A n xs) (hne : ∀ c off, A = some ⟨c, off, none⟩ → some c ≠ some b) (v0 v1 v2 v3 v4 v5 v6 v7 : Value) : Rd ((((((((w.setCell ⟨b, 0, none⟩ v0).setCell ⟨b, 1, none⟩ v1).setCell ⟨b, 2, none⟩ v2).setCell ⟨b, 3, none⟩ v3).setCell ⟨b, 4, none⟩ v4).setCell ⟨b, 5, none⟩ v5).setCell ⟨b, 6, none⟩ v6).setCell ⟨b, 7, none⟩ v7) ((((((((w.setCell ⟨b, 0, none⟩ v0).setCell ⟨b, 1, none⟩ v1).setCell ⟨b, 2, none⟩ v2).setCell ⟨b, 3, none⟩ v3).setCell ⟨b, 4, none⟩ v4).setCell ⟨b, 5, none⟩ v5).setCell ⟨b, 6, none⟩ v6).setCell ⟨b, 7, none⟩ v7).heap.size size A n xs :=
  ((((((((h.set1 hne 0 v0).set1 hne 1 v1).set1 hne 2 v2).set1 hne 3 v3).set1 hne 4 v4).set1 hne 5 v5).set1 hne 6 v6).set1 hne 7 v7)
/-- The objects from the asked one on. -/
def filOb (ask : Int) (l : List Ob) : List Ob := l.filter fun o => decide (ask ≤ o.id) && decide (o.id ≤ 255)
theorem filOb_snoc (ask : Int) (l : List Ob) (o : Ob) : filOb ask (l ++ [o]) = filOb ask l ++ (if decide (ask ≤ o.id) && decide (o.id ≤ 255) then [o] else []) := by
  simp only [filOb, List.filter_append, List.filter_cons, List.filter_nil]
theorem filOb_len (ask : Int) (l : List Ob) : (filOb ask l).length ≤ l.length := List.length_filter_le _ _
theorem sobCells_snoc (l : List Ob) (o : Ob) : obCells (l ++ [o]) = obCells l ++ [.int .i64 o.id, .slice o.A o.n o.c] := by simp [obCells, obRow]
theorem obInfo2 : (Try.prog.info? 48).map (fun i => (i.zero, i.size, i.bytes)) = some (some (.agg #[.int .i64 0, .slice none 0 0]), 2, 32) := by kernel_rfl
theorem one_ob2 (a : Int) (A : Option Addr) (n c : Nat) : ∀ u ∈ [Value.int .i64 a, .slice A n c], u.oneCell' = true := by
  intro u hu
  simp only [List.mem_cons, List.not_mem_nil, or_false] at hu
  rcases hu with rfl | rfl <;> rfl
/-- Within device: the slave, the request, the result's cells, the reply's cells. -/
def DvS (w0 x : World) (S : Sl) (ask : Int) (rep : Array Value) : Prop :=
  Box x w0.heap.size (slCells S) ∧ Box x (w0.heap.size + 1) #[.int .i64 43, .int .i64 0, .int .i64 0, .int .i64 3, .int .i64 ask] ∧ Box x (w0.heap.size + 2) #[.int .i64 0, .int .i64 0, .slice none 0 0, .int .i64 0, .int .i64 0, .bool false, .int .i64 0, .slice none 0 0] ∧ Box x (w0.heap.size + 3) rep ∧ Below w0.heap.size w0 x
theorem DvS.below {w0 x x' : World} {S : Sl} {ask : Int} {rep : Array Value} (h : DvS w0 x S ask rep) (hb : Below x.heap.size x x') : DvS w0 x' S ask rep := by
  obtain ⟨h1, h2, h3, h4, h5⟩ := h
  exact ⟨h1.below hb, h2.below hb, h3.below hb, h4.below hb, ext_trans h5 hb⟩
theorem DvS.row {w0 x x' : World} {S : Sl} {ask : Int} {rep : Array Value} {base : Nat} {e : TypeId} {size n : Nat} {v : Value} {xs : List Value} (h : DvS w0 x S ask rep) (ho : x.ownsRow base e size v n xs) (hb : w0.heap.size + 4 ≤ base) (hg : x.grownBy x' v.ownBlock) : DvS w0 x' S ask rep := by
  obtain ⟨h1, h2, h3, h4, h5⟩ := h
  exact ⟨h1.row hg (ne_row ho (by omega)), h2.row hg (ne_row ho (by omega)), h3.row hg (ne_row ho (by omega)), h4.row hg (ne_row ho (by omega)), below_row h5 ho hg (by omega) h5.size⟩
theorem DvS.set {w0 x : World} {S : Sl} {ask : Int} {rep rep' : Array Value} {u : Value} {k : Nat} (h : DvS w0 x S ask rep) (hk : k < rep.size) (e : rep.setIfInBounds k u = rep') : DvS w0 (x.setCell ⟨w0.heap.size + 3, k, none⟩ u) S ask rep' := by
  obtain ⟨h1, h2, h3, h4, h5⟩ := h
  have hg := one_set (one_refl x (w0.heap.size + 3)) k u
  exact ⟨h1.grown hg (by omega), h2.grown hg (by omega), h3.grown hg (by omega), h4.set hk e, below_one h5 hg (by omega) h5.size⟩
end Go.Proofs.Ytpbmolijoadonaa

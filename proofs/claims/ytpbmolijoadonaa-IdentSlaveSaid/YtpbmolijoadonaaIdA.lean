/- Layer 22: the state of an identification, the program's and the reference's; the plain functions. -/
import Derived.Test.YtpbmolijoadonaaOc
import Derived.Test.YtpbmolijoadonaaObj
import Derived.Test.YtpbmolijoadonaaBox
import Derived.Test.YtpbmolijoadonaaLib3
import Derived.Test.YtpbmolijoadonaaLib4
import Derived.Test.YtpbmolijoadonaaBytes
import Derived.Deep.DeepCutAuto
set_option linter.unusedVariables false
set_option linter.unusedSimpArgs false
namespace Go.Proofs.Ytpbmolijoadonaa
open Go.RowKit

theorem own_box {w : World} {base : Nat} {e : TypeId} {size n : Nat} {v : Value} {xs : List Value} (h : w.ownsRow base e size v n xs) (o : Obj) : (w.alloc o).ownsRow base e size v n xs := h.alloc o
theorem own_off {w w' : World} {base : Nat} {e : TypeId} {size n : Nat} {v : Value} {xs : List Value} {row : Option Nat} (h : w.ownsRow base e size v n xs) (hg : w.grownBy w' row) (hne : ∀ b, v.ownBlock = some b → row ≠ some b) : w'.ownsRow base e size v n xs := by
  refine ⟨h.1, ?_⟩
  rcases h.2 with hn | ⟨b, cap, cur, rfl, hb', hgg, rest⟩
  · exact .inl hn
  · refine .inr ⟨b, cap, cur, rfl, hb', ?_, rest⟩
    rw [hg.block b (Array.getElem?_eq_some_iff.1 hgg).1 (fun e => hne b rfl e.symm)]
    exact hgg
theorem objInfo : (Try.prog.info? 48).map (fun i => (i.zero, i.size, i.bytes)) = some (some (.agg #[.int .i64 0, .slice none 0 0]), 2, 32) := by kernel_rfl
theorem one_ob (l : List Ob) : ∀ u ∈ obCells l, u.oneCell' = true := by
  intro u hu
  obtain ⟨r, hr, hu⟩ := List.mem_flatten.1 hu
  obtain ⟨o, _, rfl⟩ := List.mem_map.1 hr
  simp only [obRow, List.mem_cons, List.not_mem_nil, or_false] at hu
  rcases hu with rfl | rfl <;> rfl
theorem obCells_append (a b : List Ob) : obCells (a ++ b) = obCells a ++ obCells b := by simp [obCells]
theorem obCells_snoc (l : List Ob) (k : Nat) (hk : k < l.length) : obCells (l.take (k + 1)) = obCells (l.take k) ++ [.int .i64 l[k].id, .slice l[k].A l[k].n l[k].c] := by
  rw [List.take_succ_eq_append_getElem hk, obCells_append]
  simp [obCells, obRow]
/-- Cells of object k of a list that is read. -/
theorem ob_at {w : World} {B n : Nat} {A : Option Addr} {l : List Ob} (h : Rd w B 2 A n (obCells l)) (k : Nat) (hk : k < n) :
    ∃ b off, A = some ⟨b, off, none⟩ ∧ b < B ∧ ∃ (hk : k < l.length), w.cell? ⟨b, off + k * 2, none⟩ = some (.int .i64 l[k].id) ∧ w.cell? ⟨b, off + k * 2 + 1, none⟩ = some (.slice l[k].A l[k].n l[k].c) := by
  have hl : l.length = n := by have h1 := h.1; rw [obCells_length] at h1; omega
  obtain ⟨b, off, e, hb, hc⟩ := h.2 (by omega)
  have hk2 : k < l.length := by omega
  exact ⟨b, off, e, hb, hk2, hc _ _ (obCells_0 l k hk2), hc _ _ (obCells_1 l k hk2)⟩
theorem Rd.olen {w : World} {B n : Nat} {A : Option Addr} {l : List Ob} (h : Rd w B 2 A n (obCells l)) : l.length = n := by
  have h1 := h.1; rw [obCells_length] at h1; omega

/-! ### contents -/
def con (l : List Ob) : List (Int × List Int) := l.map fun o => (o.id, o.val)
/-- The values of the objects read well, and lie neither in block g nor in block 'row' nor in a block of F. -/
def Vals (w : World) (g : Nat) (row : Option Nat) (F : Nat → Prop) (l : List Ob) : Prop :=
  ∀ o ∈ l, Rd w w.heap.size 1 o.A o.n (by8 o.val) ∧ (0 < o.n → ∀ b off, o.A = some ⟨b, off, none⟩ → b ≠ g ∧ some b ≠ row ∧ ¬ F b)
theorem Vals.below {w w' : World} {g : Nat} {row : Option Nat} {F : Nat → Prop} {l : List Ob} (h : Vals w g row F l) (hb : Below w.heap.size w w') : Vals w' g row F l :=
  fun o ho => ⟨((h o ho).1.below hb (Nat.le_refl _)).more hb.size, (h o ho).2⟩
/-- A value that is read, when blocks change that it does not lie in. -/
theorem Rd.other {w w' : World} {B size n : Nat} {A : Option Addr} {xs : List Value} (h : Rd w B size A n xs) (hB : B ≤ w'.heap.size) (hk : ∀ b off, 0 < n → A = some ⟨b, off, none⟩ → b < B → w'.heap[b]? = w.heap[b]?) : Rd w' w'.heap.size size A n xs := by
  refine ⟨h.1, fun hn => ?_⟩
  obtain ⟨b, off, e, hb, hc⟩ := h.2 hn
  refine ⟨b, off, e, by omega, fun j u hu => ?_⟩
  rw [World.cell?_of_block (a := ⟨b, off + j, none⟩) (hk b off hn e hb)]
  exact hc j u hu
/-- Only blocks have changed that the values do not lie in. -/
theorem Vals.other {w w' : World} {g : Nat} {row : Option Nat} {F : Nat → Prop} {l : List Ob} (h : Vals w g row F l) (hs : w.heap.size ≤ w'.heap.size) (hk : ∀ b, b < w.heap.size → b ≠ g → some b ≠ row → ¬ F b → w'.heap[b]? = w.heap[b]?) : Vals w' g row F l := by
  intro o ho
  obtain ⟨h1, h2⟩ := h o ho
  refine ⟨h1.other hs fun b off hn e hb => ?_, h2⟩
  obtain ⟨h3, h4, h5⟩ := h2 hn b off e
  exact hk b hb h3 h4 h5
/-- Another row, or other forbidden blocks: those that are new. -/
theorem Vals.turn {w : World} {g : Nat} {row row' : Option Nat} {F F' : Nat → Prop} {l : List Ob} (h : Vals w g row F l) (hr : row' = row ∨ ∃ b, row' = some b ∧ w.heap.size ≤ b) (hF : ∀ b, F' b → F b ∨ w.heap.size ≤ b) : Vals w g row' F' l := by
  intro o ho
  obtain ⟨h1, h2⟩ := h o ho
  refine ⟨h1, fun hn b off e => ?_⟩
  obtain ⟨h3, h4, h5⟩ := h2 hn b off e
  obtain ⟨b2, off2, e2, hb2, _⟩ := h1.2 hn
  rw [e] at e2
  injection e2 with e2
  injection e2 with e3 _
  subst e3
  refine ⟨h3, ?_, fun hf => ?_⟩
  · rcases hr with rfl | ⟨c, rfl, hc⟩
    · exact h4
    · intro e4; injection e4 with e4; omega
  · rcases hF b hf with hf | hf
    · exact h5 hf
    · omega
theorem Vals.append {w : World} {g : Nat} {row : Option Nat} {F : Nat → Prop} {l m : List Ob} (h : Vals w g row F l) (k : Vals w g row F m) : Vals w g row F (l ++ m) :=
  fun o ho => (List.mem_append.1 ho).elim (h o) (k o)

structure Ist where
  st : Int
  lv : Int
  ask : Int
  cnt : Nat
  os : List (Int × List Int)
/-- The identification in block g is in state S (the program's or the reference's), its row in block 'row'; it uses no block of F. -/
def IdAt (w : World) (g : Nat) (F : Nat → Prop) (row : Option Nat) (S : Ist) : Prop := ∃ (lv nx rp : Int) (v : Value) (l : List Ob), v.ownBlock = row ∧ Box w g #[.int .i64 S.st, .int .i64 lv, v, .int .i64 nx, .int .i64 rp] ∧ w.ownsRow (g + 1) 48 2 v l.length (obCells l) ∧ (∀ b, row = some b → ¬ F b) ∧ Vals w g row F l ∧ (S.st = 0 ∨ S.st = 2 → lv = S.lv ∧ con l = S.os) ∧ (S.st = 0 → nx = S.ask ∧ rp = (S.cnt : Nat))
theorem IdAt.below {w w' : World} {g : Nat} {F : Nat → Prop} {row : Option Nat} {S : Ist} (h : IdAt w g F row S) (hb : Below w.heap.size w w') : IdAt w' g F row S := by
  obtain ⟨lv, nx, rp, v, l, h0, h1, h2, h2b, h3, h4, h5⟩ := h
  exact ⟨lv, nx, rp, v, l, h0, h1.below hb, own_below h2 hb (Nat.le_refl _), h2b, h3.below hb, h4, h5⟩
/-- Only forbidden blocks have changed. -/
theorem IdAt.other {w w' : World} {g : Nat} {F F' : Nat → Prop} {row : Option Nat} {S : Ist} (h : IdAt w g F row S) (hg : ¬ F g) (hs : w.heap.size ≤ w'.heap.size) (hk : ∀ b, b < w.heap.size → ¬ F b → w'.heap[b]? = w.heap[b]?) (hF : ∀ b, F' b → F b ∨ w.heap.size ≤ b) : IdAt w' g F' row S := by
  obtain ⟨lv, nx, rp, v, l, h0, h1, h2, h2b, h3, h4, h5⟩ := h
  have hblk := hk g h1.2.2 hg
  refine ⟨lv, nx, rp, v, l, h0, ⟨fun i => ?_, fun i => ?_, heap_some hblk h1.2.2⟩, ⟨h2.1, ?_⟩, fun b hb hf => ?_, fun o ho => ?_, h4, h5⟩
  · rw [World.cell?_of_block (a := ⟨g, i, none⟩) hblk]; exact h1.1 i
  · rw [frozen_of_block (p := ⟨g, i, none⟩) hblk]; exact h1.2.1 i
  · rcases h2.2 with hn | ⟨b, cap, cur, rfl, hb', hgg, rest⟩
    · exact .inl hn
    · refine .inr ⟨b, cap, cur, rfl, hb', ?_, rest⟩
      rw [hk b (Array.getElem?_eq_some_iff.1 hgg).1 (h2b b (by rw [← h0]; rfl))]
      exact hgg
  · have := (h2.lt b (by rw [h0]; exact hb)).2
    rcases hF b hf with hf | hf
    · exact h2b b hb hf
    · omega
  · obtain ⟨k1, k2⟩ := h3 o ho
    exact ⟨k1.other hs fun b off hn e hb => hk b hb (k2 hn b off e).2.2, ((h3.turn (.inl rfl) hF) o ho).2⟩
/-- Only the blocks g and 'row' and new memory have changed. -/
def Chg (w w' : World) (g : Nat) (row : Option Nat) : Prop := w'.os = w.os ∧ w'.tape = w.tape ∧ w'.output = w.output ∧ w.heap.size ≤ w'.heap.size ∧ ∀ i, i < w.heap.size → i ≠ g → some i ≠ row → w'.heap[i]? = w.heap[i]?
theorem Chg.refl (w : World) (g : Nat) (row : Option Nat) : Chg w w g row := ⟨rfl, rfl, rfl, Nat.le_refl _, fun _ _ _ _ => rfl⟩
theorem Chg.below {a w w' : World} {g : Nat} {row : Option Nat} (h : Chg a w g row) (hb : Below w.heap.size w w') : Chg a w' g row :=
  ⟨hb.os.trans h.1, hb.tape.trans h.2.1, hb.output.trans h.2.2.1, Nat.le_trans h.2.2.2.1 hb.size, fun i hi hg hr => (hb.block i (Nat.lt_of_lt_of_le hi h.2.2.2.1)).trans (h.2.2.2.2 i hi hg hr)⟩
theorem Chg.grown {a w w' : World} {g : Nat} {row r : Option Nat} (h : Chg a w g row) (hg : w.grownBy w' r) (hr : r = some g ∨ r = row ∨ ∃ b, r = some b ∧ a.heap.size ≤ b) : Chg a w' g row := by
  refine ⟨hg.os.trans h.1, hg.tape.trans h.2.1, hg.output.trans h.2.2.1, Nat.le_trans h.2.2.2.1 hg.size, fun i hi hig hir => (hg.block i (Nat.lt_of_lt_of_le hi h.2.2.2.1) ?_).trans (h.2.2.2.2 i hi hig hir)⟩
  rcases hr with rfl | rfl | ⟨b, rfl, hb⟩
  · intro e; injection e with e; exact hig e
  · exact hir
  · intro e; injection e with e; omega
theorem below_chg {B : Nat} {w0 w w' : World} {g : Nat} {row : Option Nat} (h : Below B w0 w) (hc : Chg w w' g row) (hB : B ≤ w.heap.size) (hg : B ≤ g) (hr : ∀ b, row = some b → B ≤ b) : Below B w0 w' :=
  ⟨hc.1.trans h.os, hc.2.1.trans h.tape, hc.2.2.1.trans h.output, Nat.le_trans h.size hc.2.2.2.1, fun i hi => (hc.2.2.2.2 i (Nat.lt_of_lt_of_le hi hB) (by omega) (fun e => by have := hr i e.symm; omega)).trans (h.block i hi)⟩
abbrev iptr (g : Nat) : Value := .pointer (some ⟨g, 0, none⟩)

/-! ### what a reply must be -/
def asc (p : Int) : List Int → Bool
  | [] => true
  | x :: t => decide (p < x) && asc x t
def lastOf (p : Int) : List Int → Int
  | [] => p
  | x :: t => lastOf x t
theorem asc_snoc (p : Int) (l : List Int) (x : Int) : asc p (l ++ [x]) = (asc p l && decide (lastOf p l < x)) := by
  induction l generalizing p with
  | nil => simp only [List.nil_append, asc, lastOf, Bool.and_true, Bool.true_and]; rfl
  | cons y t ih => simp only [List.cons_append, asc, lastOf, ih, Bool.and_assoc]; rfl
theorem lastOf_snoc (p : Int) (l : List Int) (x : Int) : lastOf p (l ++ [x]) = x := by
  induction l generalizing p with
  | nil => rfl
  | cons y t ih => simpa [lastOf] using ih y
theorem asc_le (p : Int) (l : List Int) (h : asc p l = true) : p ≤ lastOf p l := by
  induction l generalizing p with
  | nil => exact Int.le_refl _
  | cons y t ih =>
    simp only [asc, Bool.and_eq_true, decide_eq_true_eq] at h
    have := ih y h.2
    simp only [lastOf]; omega
theorem asc_take (p : Int) (l : List Int) (k : Nat) (h : asc p l = true) : asc p (l.take k) = true := by
  induction l generalizing p k with
  | nil => simp [asc]
  | cons y t ih =>
    simp only [asc, Bool.and_eq_true, decide_eq_true_eq] at h
    cases k with
    | zero => rfl
    | succ k => simp only [List.take_succ_cons, asc, Bool.and_eq_true, decide_eq_true_eq]; exact ⟨h.1, ih y k h.2⟩
def ids (l : List Ob) : List Int := l.map (·.id)
theorem ids_snoc (l : List Ob) (k : Nat) (hk : k < l.length) : ids (l.take (k + 1)) = ids (l.take k) ++ [l[k].id] := by
  rw [List.take_succ_eq_append_getElem hk, ids, List.map_append]; rfl
/-- Can the reply continue an identification that asked for object 'ask'? -/
def ordB (M : Bool) (N : Int) (l : List Int) (ask : Int) : Bool := asc (ask - 1) l && !l.isEmpty && (!M || decide (lastOf (ask - 1) l < N))
def goodB (o : Oc) (ask : Int) : Bool := decide (o.V = 1 ∧ o.F = 43) && ordB o.M o.N (ids o.os) ask
def stepI (S : Ist) (o : Oc) : Ist :=
  if o.V = 2 ∧ o.E = 1 ∧ S.cnt = 0 then { S with st := 5 }
  else if goodB o S.ask = false ∨ (0 < S.cnt ∧ o.L ≠ S.lv) then { S with st := 4 }
  else ⟨if o.M = false then 2 else if S.cnt + 1 = 32 then 4 else 0, o.L, o.N, S.cnt + 1, S.os ++ con o.os⟩
end Go.Proofs.Ytpbmolijoadonaa

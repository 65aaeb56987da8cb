/- Memory in which one object (a block and its row) has changed. -/
import Derived.Test.YtipcnpnfdoainaaLib3
import Derived.Test.YtipcnpnfdoainaaLib4
import Derived.Test.YtipcnpnfdoainaaBox
set_option linter.unusedVariables false
set_option linter.unusedSimpArgs false
namespace Go.Proofs.Ytipcnpnfdoainaa
open Go.RowKit

theorem own_box {w : World} {base : Nat} {e : TypeId} {size n : Nat} {v : Value} {xs : List Value} (h : w.ownsRow base e size v n xs) (o : Obj) : (w.alloc o).ownsRow base e size v n xs := h.alloc o
theorem own_off {w w' : World} {base : Nat} {e : TypeId} {size n : Nat} {v : Value} {xs : List Value} {row : Option Nat} (h : w.ownsRow base e size v n xs) (hg : w.grownBy w' row) (hne : ∀ b, v.ownBlock = some b → row ≠ some b) : w'.ownsRow base e size v n xs := by
  refine ⟨h.1, ?_⟩
  rcases h.2 with hn | ⟨b, cap, cur, rfl, hb', hgg, rest⟩
  · exact .inl hn
  · refine .inr ⟨b, cap, cur, rfl, hb', ?_, rest⟩
    rw [hg.block b (Array.getElem?_eq_some_iff.1 hgg).1 (fun e => hne b rfl e.symm)]
    exact hgg
/-- A value that is read, when blocks change that it does not lie in. -/
theorem Rd.other {w w' : World} {B size n : Nat} {A : Option Addr} {xs : List Value} (h : Rd w B size A n xs) (hB : B ≤ w'.heap.size) (hk : ∀ b off, 0 < n → A = some ⟨b, off, none⟩ → b < B → w'.heap[b]? = w.heap[b]?) : Rd w' w'.heap.size size A n xs := by
  refine ⟨h.1, fun hn => ?_⟩
  obtain ⟨b, off, e, hb, hc⟩ := h.2 hn
  refine ⟨b, off, e, by omega, fun j u hu => ?_⟩
  rw [World.cell?_of_block (a := ⟨b, off + j, none⟩) (hk b off hn e hb)]
  exact hc j u hu
/-- Only the blocks g and 'row' and new memory have changed. -/
def Chg (w w' : World) (g : Nat) (row : Option Nat) : Prop := w'.os = w.os ∧ w'.tape = w.tape ∧ w'.output = w.output ∧ w.heap.size ≤ w'.heap.size ∧ ∀ i, i < w.heap.size → i ≠ g → some i ≠ row → w'.heap[i]? = w.heap[i]?
theorem Chg.refl (w : World) (g : Nat) (row : Option Nat) : Chg w w g row := ⟨rfl, rfl, rfl, Nat.le_refl _, fun _ _ _ _ => rfl⟩
theorem Chg.below {a w w' : World} {g : Nat} {row : Option Nat} (h : Chg a w g row) (hb : Below w.heap.size w w') : Chg a w' g row :=
  ⟨hb.os.trans h.1, hb.tape.trans h.2.1, hb.output.trans h.2.2.1, Nat.le_trans h.2.2.2.1 hb.size, fun i hi hg hr => (hb.block i (Nat.lt_of_lt_of_le hi h.2.2.2.1)).trans (h.2.2.2.2 i hi hg hr)⟩
theorem Chg.grown {a w w' : World} {g : Nat} {row r : Option Nat} (h : Chg a w g row) (hg : w.grownBy w' r) (hr : r = some g ∨ r = row ∨ ∃ b, r = some b ∧ a.heap.size ≤ b) : Chg a w' g row := by
  refine ⟨hg.os.trans h.1, hg.tape.trans h.2.1, hg.output.trans h.2.2.1, Nat.le_trans h.2.2.2.1 hg.size, fun i hi hig hir => (hg.block i (Nat.lt_of_lt_of_le hi h.2.2.2.1) ?_).trans (h.2.2.2.2 i hi hig hir)⟩
  rcases hr with rfl | rfl | ⟨b, rfl, hb⟩
  · intro e; injection e with e; exact hig e
  · exact hir
  · intro e; injection e with e; omega
theorem below_chg {B : Nat} {w0 w w' : World} {g : Nat} {row : Option Nat} (h : Below B w0 w) (hc : Chg w w' g row) (hB : B ≤ w.heap.size) (hg : B ≤ g) (hr : ∀ b, row = some b → B ≤ b) : Below B w0 w' :=
  ⟨hc.1.trans h.os, hc.2.1.trans h.tape, hc.2.2.1.trans h.output, Nat.le_trans h.size hc.2.2.2.1, fun i hi => (hc.2.2.2.2 i (Nat.lt_of_lt_of_le hi hB) (by omega) (fun e => by have := hr i e.symm; omega)).trans (h.block i hi)⟩
theorem Box.chg {w w' : World} {b g : Nat} {row : Option Nat} {cs : Array Value} (h : Box w b cs) (hc : Chg w w' g row) (h1 : b ≠ g) (h2 : some b ≠ row) : Box w' b cs := by
  have hblk := hc.2.2.2.2 b h.2.2 h1 h2
  refine ⟨fun i => ?_, fun i => ?_, heap_some hblk h.2.2⟩
  · rw [World.cell?_of_block (a := ⟨b, i, none⟩) hblk]; exact h.1 i
  · rw [frozen_of_block (p := ⟨b, i, none⟩) hblk]; exact h.2.1 i
end Go.Proofs.Ytipcnpnfdoainaa

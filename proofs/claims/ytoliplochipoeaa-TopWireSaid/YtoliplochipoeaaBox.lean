/- A struct in a block of its own ('Box'); only one block and new memory have changed ('grownBy'). -/
import Derived.Test.YtoliplochipoeaaLib3
import Derived.Deep.OwnRows
import Derived.OwnWalk
set_option linter.unusedVariables false
set_option linter.unusedSimpArgs false
namespace Go.Proofs.Ytoliplochipoeaa
open Go.RowKit

/-- A struct that lies in a block of its own, and may be written. -/
def Box (w : World) (b : Nat) (cs : Array Value) : Prop := (∀ i, w.cell? ⟨b, i, none⟩ = cs[i]?) ∧ (∀ i, w.frozen? ⟨b, i, none⟩ = false) ∧ b < w.heap.size
theorem Box.new {w w1 : World} {cs : Array Value} {e : TypeId} (hb : Below (w.alloc (.cells cs e)).heap.size (w.alloc (.cells cs e)) w1) : Box w1 w.heap.size cs := box_new hb
theorem Box.alloc_ {w : World} {cs : Array Value} {e : TypeId} : Box (w.alloc (.cells cs e)) w.heap.size cs := box_new (Below.refl _ _)
theorem Box.below {w w' : World} {b : Nat} {cs : Array Value} (h : Box w b cs) (hb : Below w.heap.size w w') : Box w' b cs := box_keep h.1 h.2.1 h.2.2 hb
theorem Box.alloc' {w : World} {b : Nat} {cs : Array Value} (h : Box w b cs) (o : Obj) : Box (w.alloc o) b cs := h.below ((Below.refl _ _).alloc (Nat.le_refl _) _)
theorem Box.drew {w : World} {b : Nat} {cs : Array Value} (h : Box w b cs) : Box w.drew b cs := h
theorem Box.drewN {w : World} {b : Nat} {cs : Array Value} (h : Box w b cs) (n : Nat) : Box (w.drewN n) b cs := h
theorem Box.set {w : World} {b k : Nat} {cs cs' : Array Value} {v : Value} (h : Box w b cs) (hk : k < cs.size) (e : cs.setIfInBounds k v = cs') : Box (w.setCell ⟨b, k, none⟩ v) b cs' := by
  subst e; exact box_set v h.1 h.2.1 h.2.2 hk
theorem heap_some {w w' : World} {b : Nat} (h : w'.heap[b]? = w.heap[b]?) (hl : b < w.heap.size) : b < w'.heap.size := by
  rw [Array.getElem?_eq_getElem hl] at h
  exact (Array.getElem?_eq_some_iff.1 h).1
theorem frozen_of_block {w w' : World} {p : Addr} (h : w'.heap[p.block]? = w.heap[p.block]?) : w'.frozen? p = w.frozen? p := by
  unfold World.frozen?; rw [h]
theorem Box.grown {w w' : World} {b c : Nat} {cs : Array Value} (h : Box w b cs) (hg : w.grownBy w' (some c)) (hne : b ≠ c) : Box w' b cs := by
  have hblk := hg.block b h.2.2 (by intro e; injection e with e; exact hne e)
  refine ⟨fun i => ?_, fun i => ?_, heap_some hblk h.2.2⟩
  · rw [World.cell?_of_block (a := ⟨b, i, none⟩) hblk]; exact h.1 i
  · rw [frozen_of_block (p := ⟨b, i, none⟩) hblk]; exact h.2.1 i
theorem Rd.grown {w w' : World} {size n c : Nat} {A : Option Addr} {xs : List Value} (h : Rd w c size A n xs) (hc : c < w.heap.size) (hg : w.grownBy w' (some c)) : Rd w' c size A n xs :=
  h.keep fun p hp => World.cell?_of_block (hg.block p.block (by omega) (by intro e; injection e; omega))
theorem one_refl (w : World) (b : Nat) : w.grownBy w (some b) := World.grownBy.refl w _
theorem one_alloc {a w : World} {b : Nat} (h : a.grownBy w (some b)) (o : Obj) : a.grownBy (w.alloc o) (some b) :=
  ⟨h.os, h.tape, h.output, Nat.le_trans h.size (by simp), fun i hi hne => (Below.heap_alloc w o i (Nat.lt_of_lt_of_le hi h.size)).trans (h.block i hi hne)⟩
theorem below_drew {B : Nat} {a w : World} (h : Below B a w) : Below B a w.drew := ⟨h.os, h.tape, h.output, h.size, h.block⟩
theorem one_drew {a w : World} {row : Option Nat} (h : a.grownBy w row) : a.grownBy w.drew row := ⟨h.os, h.tape, h.output, h.size, h.block⟩
theorem one_drewN {a w : World} {row : Option Nat} (h : a.grownBy w row) (n : Nat) : a.grownBy (w.drewN n) row := ⟨h.os, h.tape, h.output, h.size, h.block⟩
theorem one_below {a w w' : World} {b : Nat} (h : a.grownBy w (some b)) (hb : Below w.heap.size w w') : a.grownBy w' (some b) :=
  ⟨hb.os.trans h.os, hb.tape.trans h.tape, hb.output.trans h.output, Nat.le_trans h.size hb.size, fun i hi hn => (hb.block i (Nat.lt_of_lt_of_le hi h.size)).trans (h.block i hi hn)⟩
theorem one_set {a w : World} {b : Nat} (h : a.grownBy w (some b)) (k : Nat) (u : Value) : a.grownBy (w.setCell ⟨b, k, none⟩ u) (some b) :=
  ⟨h.os, h.tape, h.output, by simpa [World.setCell] using h.size, fun i hi hne => (Below.heap_setCell w ⟨b, k, none⟩ u i (by rintro rfl; exact hne rfl)).trans (h.block i hi hne)⟩
/-- A write into a block that is new since 'a'. -/
theorem one_set_new {a w : World} {b g : Nat} (h : a.grownBy w (some b)) (hg : a.heap.size ≤ g) (k : Nat) (u : Value) : a.grownBy (w.setCell ⟨g, k, none⟩ u) (some b) :=
  ⟨h.os, h.tape, h.output, by simpa [World.setCell] using h.size, fun i hi hne => (Below.heap_setCell w ⟨g, k, none⟩ u i (by rintro rfl; omega)).trans (h.block i hi hne)⟩
theorem below_one {base : Nat} {w0 w w' : World} {b : Nat} (h : Below base w0 w) (hg : w.grownBy w' (some b)) (hb : base ≤ b) (hs : base ≤ w.heap.size) : Below base w0 w' :=
  h.grown hg hs (fun k hk => by injection hk with hk; omega)

end Go.Proofs.Ytoliplochipoeaa

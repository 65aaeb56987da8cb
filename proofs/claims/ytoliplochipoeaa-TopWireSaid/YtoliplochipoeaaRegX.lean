/- A region that draws its order, walked over all orders of what makes memory: every later world keeps what is there, but for the blocks X that the region itself has made and still writes. -/
import Derived.Test.YtoliplochipoeaaRegQ
import Derived.Test.YtoliplochipoeaaBox
set_option linter.unusedVariables false
set_option linter.unusedSimpArgs false
namespace Go.Proofs.Ytoliplochipoeaa
open Go.RowKit

/-- w' is w with new blocks, and with writes to the blocks X. -/
def Mem (X : Nat → Prop) (w w' : World) : Prop := w.heap.size ≤ w'.heap.size ∧ ∀ b, b < w.heap.size → ¬ X b → w'.heap[b]? = w.heap[b]?
theorem Mem.refl (X : Nat → Prop) (w : World) : Mem X w w := ⟨Nat.le_refl _, fun _ _ _ => rfl⟩
theorem Mem.of_below {X : Nat → Prop} {w w' : World} (h : Below w.heap.size w w') : Mem X w w' := ⟨h.size, fun b hb _ => h.block b hb⟩
theorem Mem.of_set {X : Nat → Prop} {w w' : World} {g k : Nat} {v : Value} (h : Mem X w w') (hg : X g) : Mem X w (w'.setCell ⟨g, k, none⟩ v) :=
  ⟨by simpa [World.setCell] using h.1, fun b hb hn => (Below.heap_setCell w' ⟨g, k, none⟩ v b (by rintro rfl; exact hn hg)).trans (h.2 b hb hn)⟩
theorem Mem.next {X X' : Nat → Prop} {w w' w'' : World} (h : Mem X w w') (hX : ∀ b, X' b → X b ∨ w.heap.size ≤ b) (h' : Mem X' w' w'') : Mem X w w'' :=
  ⟨Nat.le_trans h.1 h'.1, fun b hb hn => (h'.2 b (Nat.lt_of_lt_of_le hb h.1) (fun k => (hX b k).elim hn (fun j => by omega))).trans (h.2 b hb hn)⟩
/-- What is left of a region. -/
def RgX (P : Program) (X : Nat → Prop) (ops : Array Oper) (Q : Exit → Act → World → Prop) (fuel : Nat) (listed : Array Bool) (a : Act) (w : World) : Prop := RgS P (Mem X w) ops Q fuel listed a w

section
variable {P : Program} {ops : Array Oper} {Q : Exit → Act → World → Prop} {X : Nat → Prop}
theorem rgs_weaken {Q : Exit → Act → World → Prop} {S S' : World → Prop} (h : ∀ w, S' w → S w) : ∀ (fuel : Nat) (listed : Array Bool) (a : Act) (w : World), wpAnyH P .any ops Q S' fuel listed a w → wpAnyH P .any ops Q S fuel listed a w
  | 0, _, _, _, k => k
  | fuel + 1, _, _, _, k => ⟨k.1, fun i hi => wpOp_mono (fun a' w' q => ⟨h _ q.1, rgs_weaken h fuel _ a' w' q.2⟩) (k.2 i hi)⟩
theorem rgx_start {id : Nat} {a : Act} {w : World} (hm : P.follows .mixedOrders = true) (h : RgX P (fun _ => False) ops Q ops.size (Array.replicate ops.size false) a w.drew) : (Code.region id ops true).wp P Q a w :=
  rgs_start _ hm h
theorem rgx_start_all {id : Nat} {a : Act} {w : World} (hm : P.follows .mixedOrders = true) (h : RgX P (fun _ => True) ops Q ops.size (Array.replicate ops.size false) a w.drew) : (Code.region id ops true).wp P Q a w :=
  rgs_start _ hm h
/-- Operation i only reads (or its guard says no): it is taken now. -/
theorem rgx_t (d : Option Tmp) (i : Nat) {oi : Oper} {v : Value} {fuel : Nat} {listed : Array Bool} {a : Act} {w : World}
    (hc : (Region.noSelect ops && Region.free .any ops listed i && (Region.ready .any ops listed).contains i) = true) (hi : ops[i]? = some oi) (hd : oi.dst = d)
    (hy : (Region.wanted oi (yielded ops a.tmps) = true ∧ ∀ w', (∀ b o, b < w.heap.size → ¬ X b → w'.cell? ⟨b, o, none⟩ = w.cell? ⟨b, o, none⟩) → (execOp a.eval oi).run P w' = .ok (.value v) w') ∨ (Region.wanted oi (yielded ops a.tmps) = false ∧ v = undef))
    (h : RgX P X ops Q fuel (listed.setIfInBounds i true) (a.put d v) w) : RgX P X ops Q (fuel + 1) listed a w := by
  refine rgs_t d i hc hi hd (Mem.refl X w) ?_ h
  rcases hy with ⟨h1, h2⟩ | h2
  · exact .inl ⟨h1, fun w' hw => h2 w' fun b o hb hn => World.cell?_of_block (a := ⟨b, o, none⟩) (hw.2 b hb hn)⟩
  · exact .inr h2
/-- Operation i is a call that leaves the world as it is: it is taken now. -/
theorem rgx_q (d : Option Tmp) (i : Nat) {oi : Oper} {v : Value} {fuel : Nat} {listed : Array Bool} {a : Act} {w : World}
    (hc : (Region.noSelect ops && Region.free .any ops listed i && (Region.ready .any ops listed).contains i) = true) (hi : ops[i]? = some oi) (hd : oi.dst = d)
    (hw : Region.wanted oi (yielded ops a.tmps) = true) (hy : ∀ w', Mem X w w' → ∀ K : Act → World → Prop, K (a.put d v) w' → oi.wp P a w' K (QNS Q))
    (h : RgX P X ops Q fuel (listed.setIfInBounds i true) (a.put d v) w) : RgX P X ops Q (fuel + 1) listed a w :=
  rgs_q d i hc hi hd (Mem.refl X w) hw hy h
/-- One of the operations that may come up. -/
def Comes (P : Program) (X : Nat → Prop) (ops : Array Oper) (Q : Exit → Act → World → Prop) (fuel : Nat) (listed : Array Bool) (a : Act) (w : World) (i : Nat) : Prop :=
  ∃ oi, ops[i]? = some oi ∧ Region.wanted oi (yielded ops a.tmps) = true ∧
    ∀ K : Act → World → Prop, (∀ (X' : Nat → Prop) a' w', (∀ b, X' b → X b ∨ w.heap.size ≤ b) → Mem X w w' → RgX P X' ops Q fuel (listed.setIfInBounds i true) a' w' → K a' w') → oi.wp P a w K (QNS Q)
theorem rgx_comes {rs : List Nat} {fuel : Nat} {listed : Array Bool} {a : Act} {w : World} (hr : Region.ready .any ops listed = rs) (hne : rs ≠ []) (h : ∀ i ∈ rs, Comes P X ops Q fuel listed a w i) : RgX P X ops Q (fuel + 1) listed a w := by
  refine wpAnyH_all hr hne (fun j hj => ?_)
  obtain ⟨oi, hi, hw, h⟩ := h j hj
  unfold wpOp
  simp only [hi, hw, if_true]
  exact .inl (h _ fun X' a' w' hX hm hR => ⟨hm, rgs_weaken (fun w'' k => hm.next hX k) _ _ _ _ hR⟩)
theorem rgx_1 (i : Nat) {fuel : Nat} {listed : Array Bool} {a : Act} {w : World} (hr : Region.ready .any ops listed = [i]) (h : Comes P X ops Q fuel listed a w i) : RgX P X ops Q (fuel + 1) listed a w :=
  rgx_comes hr (by simp) (fun j hj => by obtain rfl : j = i := by simpa using hj
                                         exact h)
theorem rgx_2 (i k : Nat) {fuel : Nat} {listed : Array Bool} {a : Act} {w : World} (hr : Region.ready .any ops listed = [i, k]) (h : Comes P X ops Q fuel listed a w i) (h2 : Comes P X ops Q fuel listed a w k) : RgX P X ops Q (fuel + 1) listed a w :=
  rgx_comes hr (by simp) (fun j hj => by
    rcases (by simpa using hj : j = i ∨ j = k) with rfl | rfl
    · exact h
    · exact h2)
theorem rgx_3 (i k l : Nat) {fuel : Nat} {listed : Array Bool} {a : Act} {w : World} (hr : Region.ready .any ops listed = [i, k, l]) (h : Comes P X ops Q fuel listed a w i) (h2 : Comes P X ops Q fuel listed a w k) (h3 : Comes P X ops Q fuel listed a w l) : RgX P X ops Q (fuel + 1) listed a w :=
  rgx_comes hr (by simp) (fun j hj => by
    rcases (by simpa using hj : j = i ∨ j = k ∨ j = l) with rfl | rfl | rfl
    · exact h
    · exact h2
    · exact h3)
theorem rgx_d {fuel : Nat} {listed : Array Bool} {a : Act} {w : World} (hr : Region.ready .any ops listed = []) (h : Q .normal a w) : RgX P X ops Q fuel listed a w :=
  wpAnyH_done hr ⟨rfl, h⟩ _
end
end Go.Proofs.Ytoliplochipoeaa

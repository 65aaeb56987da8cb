/- A region that draws its order, walked in ONE order: what only reads is taken as soon as it may come up, whatever world it then meets (every later world keeps what is there); what makes memory comes up alone. -/
import Derived.Test.YtoliplochipoeaaLib2
import Derived.OrdersHeld
import Derived.RegionTactic
set_option linter.unusedVariables false
set_option linter.unusedSimpArgs false
namespace Go.Proofs.Ytoliplochipoeaa
open Go.RowKit

/-- The region ends normally. -/
def QN (Q : Exit → Act → World → Prop) : Exit → Act → World → Prop := fun e a w => e = .normal ∧ Q .normal a w
/-- What is left of a region, from the state (a, w) on, 'listed' having come up. -/
def RgN (P : Program) (ops : Array Oper) (Q : Exit → Act → World → Prop) (fuel : Nat) (listed : Array Bool) (a : Act) (w : World) : Prop :=
  wpAnyH P .any ops (QN Q) (fun w' => Below w.heap.size w w') fuel listed a w

section
variable {P : Program} {ops : Array Oper} {Q : Exit → Act → World → Prop}
theorem wpAnyH_mono {Q : Exit → Act → World → Prop} {S S' : World → Prop} (h : ∀ w, S' w → S w) : ∀ (fuel : Nat) (listed : Array Bool) (a : Act) (w : World), wpAnyH P .any ops Q S' fuel listed a w → wpAnyH P .any ops Q S fuel listed a w
  | 0, _, _, _, hh => hh
  | fuel + 1, _, _, _, hh => ⟨hh.1, fun i hi => wpOp_mono (fun a' w' h' => ⟨h _ h'.1, wpAnyH_mono h fuel _ a' w' h'.2⟩) (hh.2 i hi)⟩
theorem rg_start {id : Nat} {a : Act} {w : World} (hm : P.follows .mixedOrders = true) (h : RgN P ops Q ops.size (Array.replicate ops.size false) a w.drew) : (Code.region id ops true).wp P Q a w :=
  Code.wp_mono (fun e a w hq => by obtain ⟨rfl, h⟩ := hq; exact h) (wp_region_held hm h)
/-- Operation i only reads (or its guard says no): it is taken now. -/
theorem rg_t (d : Option Tmp) (i : Nat) {oi : Oper} {v : Value} {fuel : Nat} {listed : Array Bool} {a : Act} {w : World}
    (hc : (Region.noSelect ops && Region.free .any ops listed i && (Region.ready .any ops listed).contains i) = true) (hi : ops[i]? = some oi) (hd : oi.dst = d)
    (hy : (Region.wanted oi (yielded ops a.tmps) = true ∧ ∀ w', Below w.heap.size w w' → (∀ b o, b < w.heap.size → w'.cell? ⟨b, o, none⟩ = w.cell? ⟨b, o, none⟩) → (execOp a.eval oi).run P w' = .ok (.value v) w') ∨ (Region.wanted oi (yielded ops a.tmps) = false ∧ v = undef))
    (h : RgN P ops Q fuel (listed.setIfInBounds i true) (a.put d v) w) : RgN P ops Q (fuel + 1) listed a w := by
  subst hd
  simp only [Bool.and_eq_true] at hc
  refine wpAnyH_take hi hc.1.1 hc.1.2 hc.2 (fun c a w hq => by cases hq.1) ?_ (Below.refl _ _) h
  rcases hy with ⟨h1, h2⟩ | h2
  · exact .inl ⟨h1, fun w' hw => h2 w' hw (fun b o hb => hw.cell (p := ⟨b, o, none⟩) hb)⟩
  · exact .inr h2
/-- Operation i is the only one that may come up. -/
theorem rg_c (i : Nat) {oi : Oper} {fuel : Nat} {listed : Array Bool} {a : Act} {w : World} (hr : Region.ready .any ops listed = [i]) (hi : ops[i]? = some oi) (hw : Region.wanted oi (yielded ops a.tmps) = true)
    (h : ∀ K : Act → World → Prop, (∀ a' w', Below w.heap.size w w' → RgN P ops Q fuel (listed.setIfInBounds i true) a' w' → K a' w') → oi.wp P a w K (QN Q)) : RgN P ops Q (fuel + 1) listed a w := by
  refine wpAnyH_all hr (by simp) (fun j hj => ?_)
  obtain rfl : j = i := by simpa using hj
  unfold wpOp
  simp only [hi, hw, if_true]
  refine .inl (h _ fun a' w' hb hR => ⟨hb, ?_⟩)
  exact wpAnyH_mono (fun x hx => hb.trans (Below.mono hx hb.size)) _ _ _ _ hR
theorem rg_d {fuel : Nat} {listed : Array Bool} {a : Act} {w : World} (hr : Region.ready .any ops listed = []) (h : Q .normal a w) : RgN P ops Q fuel listed a w :=
  wpAnyH_done hr ⟨rfl, h⟩ _
end
end Go.Proofs.Ytoliplochipoeaa

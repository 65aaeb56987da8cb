import Derived.OrdersHeld
import Derived.RegionTactic
import Derived.Deep.DeepCutAuto
import Derived.Test.YtoliplochipoeaaB2
/- A region that draws its order, walked in ONE order, over facts S that hold in every world of the region (calls may write elsewhere): what only reads is taken as soon as it may come up; a call comes up alone, and S is shown anew behind it. -/
set_option linter.unusedVariables false
set_option linter.unusedSimpArgs false
namespace Go.Proofs.Ytoliplochipoeaa
open Go.RowKit

/-- The region ends normally. -/
def QNS (Q : Exit → Act → World → Prop) : Exit → Act → World → Prop := fun e a w => e = .normal ∧ Q .normal a w
/-- What is left of a region, from the state (a, w) on, 'listed' having come up. -/
def RgS (P : Program) (S : World → Prop) (ops : Array Oper) (Q : Exit → Act → World → Prop) (fuel : Nat) (listed : Array Bool) (a : Act) (w : World) : Prop :=
  wpAnyH P .any ops (QNS Q) S fuel listed a w

section
variable {P : Program} {ops : Array Oper} {Q : Exit → Act → World → Prop} {S : World → Prop}
theorem rgs_start (S : World → Prop) {id : Nat} {a : Act} {w : World} (hm : P.follows .mixedOrders = true) (h : RgS P S ops Q ops.size (Array.replicate ops.size false) a w.drew) : (Code.region id ops true).wp P Q a w :=
  Code.wp_mono (fun e a w hq => by obtain ⟨rfl, h⟩ := hq; exact h) (wp_region_held hm h)
/-- Operation i only reads (or its guard says no): it is taken now. -/
theorem rgs_t (d : Option Tmp) (i : Nat) {oi : Oper} {v : Value} {fuel : Nat} {listed : Array Bool} {a : Act} {w : World}
    (hc : (Region.noSelect ops && Region.free .any ops listed i && (Region.ready .any ops listed).contains i) = true) (hi : ops[i]? = some oi) (hd : oi.dst = d) (hS : S w)
    (hy : (Region.wanted oi (yielded ops a.tmps) = true ∧ ∀ w', S w' → (execOp a.eval oi).run P w' = .ok (.value v) w') ∨ (Region.wanted oi (yielded ops a.tmps) = false ∧ v = undef))
    (h : RgS P S ops Q fuel (listed.setIfInBounds i true) (a.put d v) w) : RgS P S ops Q (fuel + 1) listed a w := by
  subst hd
  simp only [Bool.and_eq_true] at hc
  refine wpAnyH_take hi hc.1.1 hc.1.2 hc.2 (fun c a w hq => by cases hq.1) ?_ hS h
  rcases hy with ⟨h1, h2⟩ | h2
  · exact .inl ⟨h1, fun w' hw => h2 w' hw⟩
  · exact .inr h2
/-- Operation i is the only one that may come up. -/
theorem rgs_c (i : Nat) {oi : Oper} {fuel : Nat} {listed : Array Bool} {a : Act} {w : World} (hr : Region.ready .any ops listed = [i]) (hi : ops[i]? = some oi) (hw : Region.wanted oi (yielded ops a.tmps) = true)
    (h : ∀ K : Act → World → Prop, (∀ a' w', S w' → RgS P S ops Q fuel (listed.setIfInBounds i true) a' w' → K a' w') → oi.wp P a w K (QNS Q)) : RgS P S ops Q (fuel + 1) listed a w := by
  refine wpAnyH_all hr (by simp) (fun j hj => ?_)
  obtain rfl : j = i := by simpa using hj
  unfold wpOp
  simp only [hi, hw, if_true]
  exact .inl (h _ fun a' w' hb hR => ⟨hb, hR⟩)
theorem rgs_d {fuel : Nat} {listed : Array Bool} {a : Act} {w : World} (hr : Region.ready .any ops listed = []) (h : Q .normal a w) : RgS P S ops Q fuel listed a w :=
  wpAnyH_done hr ⟨rfl, h⟩ _
end
end Go.Proofs.Ytoliplochipoeaa

/- In a region that draws its order: a call that leaves the world as it is may be taken first. -/
set_option linter.unusedVariables false
set_option linter.unusedSimpArgs false
namespace Go.Proofs.Ytoliplochipoeaa
open Go.RowKit

section
variable {P : Program} {ops : Array Oper} {Q : Exit → Act → World → Prop} {S : World → Prop}
/-- In state a, in every world that meets S, operation o leaves v in its slot and does nothing else, whoever comes behind. -/
def QuietAt (P : Program) (Q : Exit → Act → World → Prop) (S : World → Prop) (o : Oper) (v : Value) (a : Act) : Prop :=
  ∀ w, S w → ∀ K : Act → World → Prop, K (a.put o.dst v) w → o.wp P a w K (QNS Q)

theorem wp_moved {o : Oper} {a : Act} {w : World} (T : Act → Act) (he : execOp (T a).eval o = execOp a.eval o) (hT : ∀ u, (T a).put o.dst u = T (a.put o.dst u))
    (hD : ∀ d w', (execOp a.eval o).run P w ≠ .ok (.defer d) w') {K : Act → World → Prop}
    (h : o.wp P a w (fun a1 w1 => K (T a1) w1) (QNS Q)) : o.wp P (T a) w K (QNS Q) := by
  unfold Oper.wp at *
  rw [he]
  generalize (execOp a.eval o).run P w = r at *
  cases r with
  | ok n w' =>
    cases n <;> simp only [Oper.upon] at h ⊢
    case value u => rw [hT]; exact h
    case skip => rw [hT]; exact h
    case defer d => exact absurd rfl (hD d w')
    case enter f args =>
      refine Calls.mono h fun e w'' k => ?_
      cases e with
      | returned u => simp only at k ⊢; rw [hT]; exact k
      | panicked c => exact absurd k.1 (by simp)
      | outgrown => exact k
    case row row args => exact Rows.mono h fun u w'' k => by rw [hT]; exact k
  | halt x w' =>
    cases x <;> simp only [Oper.upon] at h ⊢
    case panic u => exact absurd h.1 (by simp)

theorem QuietAt.noDefer {o : Oper} {v : Value} {a : Act} (h : QuietAt P Q S o v a) {w : World} (hS : S w) (d : Deferred) (w' : World) : (execOp a.eval o).run P w ≠ .ok (.defer d) w' := by
  intro e
  have k := h w hS (fun a1 _ => a1.defers = a.defers) (by cases o.dst <;> rfl)
  unfold Oper.wp at k
  rw [e] at k
  simp only [Oper.upon] at k
  have k2 : (({ a with defers := d :: a.defers } : Act).put o.dst undef).defers = d :: a.defers := by cases o.dst <;> rfl
  rw [k2] at k
  have := congrArg List.length k
  simp at this
theorem QuietAt.put {o oj : Oper} {v : Value} {a : Act} (h : QuietAt P Q S o v a) (hs : ∀ cs b, o.op ≠ .select cs b) (h2 : ∀ d, o.dst = some d → oj.dst ≠ some d) (h3 : ∀ d, oj.dst = some d → d ∉ o.looksAt ops) (u : Value) : QuietAt P Q S o v (a.put oj.dst u) := by
  intro w hS K hK
  refine wp_moved (fun x => x.put oj.dst u) (execOp_put o hs a oj.dst u h3) (fun x => (Act.put_comm a x u h2).symm) (fun d x => h.noDefer hS d x) (h w hS _ ?_)
  · rw [Act.put_comm a v u h2]; exact hK
theorem QuietAt.defer {o : Oper} {v : Value} {a : Act} (h : QuietAt P Q S o v a) (d : Deferred) : QuietAt P Q S o v { a with defers := d :: a.defers } := by
  intro w hS K hK
  refine wp_moved (fun x => { x with defers := d :: x.defers }) rfl (fun x => (Act.put_defers a o.dst x d).symm) (fun e x => h.noDefer hS e x) (h w hS _ ?_)
  · rw [Act.put_defers]; exact hK

theorem wpOp_putQ {j : Nat} {oi oj : Oper} {v : Value} (hj : ops[j]? = some oj) (hap : oi.apart ops oj = true) (hsi : ∀ cs b, oi.op ≠ .select cs b) (hsj : ∀ cs b, oj.op ≠ .select cs b) {K : Act → World → Prop} {a : Act} {w : World}
    (hw : Region.wanted oi (yielded ops a.tmps) = true) (hy : QuietAt P Q S oi v a) (h : wpOp P ops (QNS Q) j K (a.put oi.dst v) w) :
    wpOp P ops (QNS Q) j (fun a' w' => (Region.wanted oi (yielded ops a'.tmps) = true ∧ QuietAt P Q S oi v a') ∧ K (a'.put oi.dst v) w') a w := by
  obtain ⟨h1, h2, h3⟩ := Oper.apart_spec hap
  have kp : ∀ (b : Act), (Region.wanted oi (yielded ops b.tmps) = true ∧ QuietAt P Q S oi v b) → ∀ u, Region.wanted oi (yielded ops (b.put oj.dst u).tmps) = true ∧ QuietAt P Q S oi v (b.put oj.dst u) :=
    fun b hb u => ⟨(wanted_put oi b oj.dst u h3).trans hb.1, hb.2.put hsi h2 h3 u⟩
  have kd : ∀ d, Region.wanted oi (yielded ops ({ a with defers := d :: a.defers } : Act).tmps) = true ∧ QuietAt P Q S oi v { a with defers := d :: a.defers } := fun d => ⟨hw, hy.defer d⟩
  unfold wpOp at *
  simp only [hj] at *
  rw [wanted_put oj a oi.dst v h1] at h
  by_cases hwj : Region.wanted oj (yielded ops a.tmps) = true
  · rw [if_pos hwj] at h ⊢
    rcases h with h | ⟨hasks, hlets⟩
    · left
      unfold Oper.wp at *
      rw [execOp_put oj hsj a oi.dst v h1] at h
      generalize (execOp a.eval oj).run P w = r at *
      cases r with
      | ok n w' =>
        cases n <;> simp only [Oper.upon] at h ⊢
        case value u => exact ⟨kp a ⟨hw, hy⟩ u, by rw [← Act.put_comm a v u h2]; exact h⟩
        case skip => exact ⟨kp a ⟨hw, hy⟩ _, by rw [← Act.put_comm a v undef h2]; exact h⟩
        case defer d =>
          refine ⟨kp _ (kd d) _, ?_⟩
          rw [← Act.put_comm _ v undef h2, ← Act.put_defers]
          exact h
        case enter f args =>
          refine Calls.mono h fun e w'' k => ?_
          cases e with
          | returned u => exact ⟨kp a ⟨hw, hy⟩ u, by rw [← Act.put_comm a v u h2]; exact k⟩
          | panicked c => exact absurd k.1 (by simp)
          | outgrown => exact k
        case row row args => exact Rows.mono h fun u w'' k => ⟨kp a ⟨hw, hy⟩ u, by rw [← Act.put_comm a v u h2]; exact k⟩
      | halt x w' =>
        cases x <;> simp only [Oper.upon] at h ⊢
        case panic u => exact absurd h.1 (by simp)
    · right
      refine ⟨?_, hlets⟩
      unfold Oper.asks at *
      rw [execOp_put oj hsj a oi.dst v h1] at hasks
      exact hasks
  · rw [if_neg hwj] at h ⊢
    exact ⟨kp a ⟨hw, hy⟩ _, by rw [← Act.put_comm a v undef h2]; exact h⟩

theorem quiet_first {i : Nat} {oi : Oper} {v : Value} (hi : ops[i]? = some oi) (hsel : ∀ (j : Nat) (o : Oper) cs b, ops[j]? = some o → o.op ≠ .select cs b) :
    ∀ (fuel : Nat) (listed : Array Bool) (a : Act) (w : World),
      (∀ j oj, ops[j]? = some oj → j ≠ i → listed.getD j true = false → (∀ e ∈ oj.after, Region.binds .any e = true → e.on ≠ i) → oi.apart ops oj = true) →
      i ∈ Region.ready .any ops listed → Region.wanted oi (yielded ops a.tmps) = true → QuietAt P Q S oi v a → S w →
      RgS P S ops Q fuel (listed.setIfInBounds i true) (a.put oi.dst v) w → RgS P S ops Q (fuel + 1) listed a w := by
  intro fuel
  have self : ∀ {K : Act → World → Prop} {a : Act} {w : World}, Region.wanted oi (yielded ops a.tmps) = true → QuietAt P Q S oi v a → S w → K (a.put oi.dst v) w → wpOp P ops (QNS Q) i K a w := by
    intro K a w hw hy hS hK
    unfold wpOp
    simp only [hi, hw, if_true]
    exact .inl (hy w hS K hK)
  induction fuel with
  | zero =>
    intro listed a w _ hr hw hy hS H
    refine ⟨fun h => (by rw [h] at hr; cases hr), fun j hj => ?_⟩
    by_cases hji : j = i
    · subst hji; exact self hw hy hS ⟨hS, H⟩
    · have := ready_mono hj hji
      rw [H.1] at this
      cases this
  | succ fuel ih =>
    intro listed a w hfree hr hw hy hS H
    refine ⟨fun h => (by rw [h] at hr; cases hr), fun j hj => ?_⟩
    by_cases hji : j = i
    · subst hji; exact self hw hy hS ⟨hS, H⟩
    · have g1 := H.2 j (ready_mono hj hji)
      obtain ⟨hjun, oj, hoj, hall⟩ := mem_ready.1 hj
      have hnot : ∀ e ∈ oj.after, Region.binds .any e = true → e.on ≠ i := fun e he hb heq => by
        have k1 := hall e he hb
        have k0 := (mem_ready.1 hr).1
        rw [heq] at k1
        rcases Nat.lt_or_ge i listed.size with h' | h'
        · simp [h'] at k0 k1; rw [k0] at k1; cases k1
        · simp [Array.getElem?_eq_none h'] at k1
      have g2 := wpOp_putQ hoj (hfree j oj hoj hji hjun hnot) (fun cs b => hsel i oi cs b hi) (fun cs b => hsel j oj cs b hoj) hw hy g1
      refine wpOp_mono (fun a' w' g3 => ⟨g3.2.1, ih (listed.setIfInBounds j true) a' w' ?_ (ready_mono hr (Ne.symm hji)) g3.1.1 g3.1.2 g3.2.1 ?_⟩) g2
      · intro k ok hk hki hun hno
        refine hfree k ok hk hki ?_ hno
        by_cases hjk : j = k
        · subst hjk; exact hjun
        · rw [getD_set_ne true hjk] at hun; exact hun
      · rw [Array.setIfInBounds_comm _ _ hji]
        exact g3.2.2
/-- Operation i is a call that leaves the world as it is: it is taken now. -/
theorem rgs_q (d : Option Tmp) (i : Nat) {oi : Oper} {v : Value} {fuel : Nat} {listed : Array Bool} {a : Act} {w : World}
    (hc : (Region.noSelect ops && Region.free .any ops listed i && (Region.ready .any ops listed).contains i) = true) (hi : ops[i]? = some oi) (hd : oi.dst = d) (hS : S w)
    (hw : Region.wanted oi (yielded ops a.tmps) = true) (hy : ∀ w', S w' → ∀ K : Act → World → Prop, K (a.put d v) w' → oi.wp P a w' K (QNS Q))
    (h : RgS P S ops Q fuel (listed.setIfInBounds i true) (a.put d v) w) : RgS P S ops Q (fuel + 1) listed a w := by
  subst hd
  simp only [Bool.and_eq_true] at hc
  exact quiet_first hi (Region.noSelect_spec hc.1.1) fuel listed a w (Region.free_spec hi hc.1.2) (by simpa using hc.2) hw hy hS h
end
end Go.Proofs.Ytoliplochipoeaa

/- A region that draws its order, walked over all orders of what makes memory: every later world keeps what is there, but for the blocks X that the region itself has made and still writes. -/
set_option linter.unusedVariables false
set_option linter.unusedSimpArgs false
namespace Go.Proofs.Ytoliplochipoeaa
open Go.RowKit

/-- w' is w with new blocks, and with writes to the blocks X. -/
def Mem (X : Nat → Prop) (w w' : World) : Prop := w.heap.size ≤ w'.heap.size ∧ ∀ b, b < w.heap.size → ¬ X b → w'.heap[b]? = w.heap[b]?
theorem Mem.refl (X : Nat → Prop) (w : World) : Mem X w w := ⟨Nat.le_refl _, fun _ _ _ => rfl⟩
theorem Mem.of_below {X : Nat → Prop} {w w' : World} (h : Below w.heap.size w w') : Mem X w w' := ⟨h.size, fun b hb _ => h.block b hb⟩
theorem Mem.of_set {X : Nat → Prop} {w w' : World} {g k : Nat} {v : Value} (h : Mem X w w') (hg : X g) : Mem X w (w'.setCell ⟨g, k, none⟩ v) :=
  ⟨by simpa [World.setCell] using h.1, fun b hb hn => (Below.heap_setCell w' ⟨g, k, none⟩ v b (by rintro rfl; exact hn hg)).trans (h.2 b hb hn)⟩
theorem Mem.next {X X' : Nat → Prop} {w w' w'' : World} (h : Mem X w w') (hX : ∀ b, X' b → X b ∨ w.heap.size ≤ b) (h' : Mem X' w' w'') : Mem X w w'' :=
  ⟨Nat.le_trans h.1 h'.1, fun b hb hn => (h'.2 b (Nat.lt_of_lt_of_le hb h.1) (fun k => (hX b k).elim hn (fun j => by omega))).trans (h.2 b hb hn)⟩
/-- What is left of a region. -/
def RgX (P : Program) (X : Nat → Prop) (ops : Array Oper) (Q : Exit → Act → World → Prop) (fuel : Nat) (listed : Array Bool) (a : Act) (w : World) : Prop := RgS P (Mem X w) ops Q fuel listed a w

section
variable {P : Program} {ops : Array Oper} {Q : Exit → Act → World → Prop} {X : Nat → Prop}
theorem rgs_weaken {Q : Exit → Act → World → Prop} {S S' : World → Prop} (h : ∀ w, S' w → S w) : ∀ (fuel : Nat) (listed : Array Bool) (a : Act) (w : World), wpAnyH P .any ops Q S' fuel listed a w → wpAnyH P .any ops Q S fuel listed a w
  | 0, _, _, _, k => k
  | fuel + 1, _, _, _, k => ⟨k.1, fun i hi => wpOp_mono (fun a' w' q => ⟨h _ q.1, rgs_weaken h fuel _ a' w' q.2⟩) (k.2 i hi)⟩
theorem rgx_start {id : Nat} {a : Act} {w : World} (hm : P.follows .mixedOrders = true) (h : RgX P (fun _ => False) ops Q ops.size (Array.replicate ops.size false) a w.drew) : (Code.region id ops true).wp P Q a w :=
  rgs_start _ hm h
theorem rgx_start_all {id : Nat} {a : Act} {w : World} (hm : P.follows .mixedOrders = true) (h : RgX P (fun _ => True) ops Q ops.size (Array.replicate ops.size false) a w.drew) : (Code.region id ops true).wp P Q a w :=
  rgs_start _ hm h
/-- Operation i only reads (or its guard says no): it is taken now. -/
theorem rgx_t (d : Option Tmp) (i : Nat) {oi : Oper} {v : Value} {fuel : Nat} {listed : Array Bool} {a : Act} {w : World}
    (hc : (Region.noSelect ops && Region.free .any ops listed i && (Region.ready .any ops listed).contains i) = true) (hi : ops[i]? = some oi) (hd : oi.dst = d)
    (hy : (Region.wanted oi (yielded ops a.tmps) = true ∧ ∀ w', (∀ b o, b < w.heap.size → ¬ X b → w'.cell? ⟨b, o, none⟩ = w.cell? ⟨b, o, none⟩) → (execOp a.eval oi).run P w' = .ok (.value v) w') ∨ (Region.wanted oi (yielded ops a.tmps) = false ∧ v = undef))
    (h : RgX P X ops Q fuel (listed.setIfInBounds i true) (a.put d v) w) : RgX P X ops Q (fuel + 1) listed a w := by
  refine rgs_t d i hc hi hd (Mem.refl X w) ?_ h
  rcases hy with ⟨h1, h2⟩ | h2
  · exact .inl ⟨h1, fun w' hw => h2 w' fun b o hb hn => World.cell?_of_block (a := ⟨b, o, none⟩) (hw.2 b hb hn)⟩
  · exact .inr h2
/-- Operation i is a call that leaves the world as it is: it is taken now. -/
theorem rgx_q (d : Option Tmp) (i : Nat) {oi : Oper} {v : Value} {fuel : Nat} {listed : Array Bool} {a : Act} {w : World}
    (hc : (Region.noSelect ops && Region.free .any ops listed i && (Region.ready .any ops listed).contains i) = true) (hi : ops[i]? = some oi) (hd : oi.dst = d)
    (hw : Region.wanted oi (yielded ops a.tmps) = true) (hy : ∀ w', Mem X w w' → ∀ K : Act → World → Prop, K (a.put d v) w' → oi.wp P a w' K (QNS Q))
    (h : RgX P X ops Q fuel (listed.setIfInBounds i true) (a.put d v) w) : RgX P X ops Q (fuel + 1) listed a w :=
  rgs_q d i hc hi hd (Mem.refl X w) hw hy h
/-- One of the operations that may come up. -/
def Comes (P : Program) (X : Nat → Prop) (ops : Array Oper) (Q : Exit → Act → World → Prop) (fuel : Nat) (listed : Array Bool) (a : Act) (w : World) (i : Nat) : Prop :=
  ∃ oi, ops[i]? = some oi ∧ Region.wanted oi (yielded ops a.tmps) = true ∧
    ∀ K : Act → World → Prop, (∀ (X' : Nat → Prop) a' w', (∀ b, X' b → X b ∨ w.heap.size ≤ b) → Mem X w w' → RgX P X' ops Q fuel (listed.setIfInBounds i true) a' w' → K a' w') → oi.wp P a w K (QNS Q)
theorem rgx_comes {rs : List Nat} {fuel : Nat} {listed : Array Bool} {a : Act} {w : World} (hr : Region.ready .any ops listed = rs) (hne : rs ≠ []) (h : ∀ i ∈ rs, Comes P X ops Q fuel listed a w i) : RgX P X ops Q (fuel + 1) listed a w := by
  refine wpAnyH_all hr hne (fun j hj => ?_)
  obtain ⟨oi, hi, hw, h⟩ := h j hj
  unfold wpOp
  simp only [hi, hw, if_true]
  exact .inl (h _ fun X' a' w' hX hm hR => ⟨hm, rgs_weaken (fun w'' k => hm.next hX k) _ _ _ _ hR⟩)
theorem rgx_1 (i : Nat) {fuel : Nat} {listed : Array Bool} {a : Act} {w : World} (hr : Region.ready .any ops listed = [i]) (h : Comes P X ops Q fuel listed a w i) : RgX P X ops Q (fuel + 1) listed a w :=
  rgx_comes hr (by simp) (fun j hj => by obtain rfl : j = i := by simpa using hj
                                         exact h)
theorem rgx_2 (i k : Nat) {fuel : Nat} {listed : Array Bool} {a : Act} {w : World} (hr : Region.ready .any ops listed = [i, k]) (h : Comes P X ops Q fuel listed a w i) (h2 : Comes P X ops Q fuel listed a w k) : RgX P X ops Q (fuel + 1) listed a w :=
  rgx_comes hr (by simp) (fun j hj => by
    rcases (by simpa using hj : j = i ∨ j = k) with rfl | rfl
    · exact h
    · exact h2)
theorem rgx_3 (i k l : Nat) {fuel : Nat} {listed : Array Bool} {a : Act} {w : World} (hr : Region.ready .any ops listed = [i, k, l]) (h : Comes P X ops Q fuel listed a w i) (h2 : Comes P X ops Q fuel listed a w k) (h3 : Comes P X ops Q fuel listed a w l) : RgX P X ops Q (fuel + 1) listed a w :=
  rgx_comes hr (by simp) (fun j hj => by
    rcases (by simpa using hj : j = i ∨ j = k ∨ j = l) with rfl | rfl | rfl
    · exact h
    · exact h2
    · exact h3)
theorem rgx_d {fuel : Nat} {listed : Array Bool} {a : Act} {w : World} (hr : Region.ready .any ops listed = []) (h : Q .normal a w) : RgX P X ops Q fuel listed a w :=
  wpAnyH_done hr ⟨rfl, h⟩ _
end
end Go.Proofs.Ytoliplochipoeaa

/- append onto a row of the call's own, with what is known of the new row's block. -/
set_option linter.unusedVariables false
set_option linter.unusedSimpArgs false
namespace Go.Proofs.Ytoliplochipoeaa
open Go.RowKit

/-- The row behind an append: the same block, or a new one. -/
def OwnNext (w : World) (v v' : Value) : Prop := v'.ownBlock = v.ownBlock ∨ ∃ g, v'.ownBlock = some g ∧ w.heap.size ≤ g
theorem run_append_own2 {P : Program} (w : World) (base : Nat) (t ty e : TypeId) (i : TypeInfo) (z : Value) (size bytes : Nat) (ht : P.underlying t = some (.slice e)) (hi : P.info? e = some i) (hz : i.zero = some z)
    (hsize : i.size = size) (hby : i.bytes = bytes) (hzs : z.cells.size = size) (hsz : 0 < size)
    (v : Value) (n : Nat) (xs : List Value) (hown : w.ownsRow base e size v n xs)
    (a : Addr) (m c : Nat) (news : List Value) (hl : news.length = m * size) (hnews : ∀ j u, news[j]? = some u → w.cell? (a.add j) = some u) (h1 : ∀ u ∈ news, u.oneCell' = true)
    (h63 : n + m ≤ maxLen) (hbytes : (n + m) * bytes ≤ 140737488355328) (hbase : base ≤ w.heap.size) :
    ∃ v' w', (Builtin.append_ #[t, t] ty #[v, .slice (some a) m c]).run P w = .ok v' w' ∧ w'.ownsRow base e size v' (n + m) (xs ++ news) ∧ w.grownBy w' v.ownBlock ∧ OwnNext w v v' := by
  obtain ⟨v', w', hr, h2, h3, h4⟩ := run_append_own (P := P) w base t ty e i z size bytes ht hi hz hsize hby hzs hsz v n xs hown a m c news hl hnews h1 h63 hbytes hbase
  refine ⟨v', w', hr, h2, h3, ?_⟩
  rcases hown.2 with ⟨rfl, rfl⟩ | ⟨g, cap, cur, rfl, hbg, hg, hnc, hcm, hcs, htake⟩
  · obtain ⟨v2, w2, hr2, k2, _, _⟩ := run_append_own (P := P) w w.heap.size t ty e i z size bytes ht hi hz hsize hby hzs hsz (.slice none 0 0) 0 xs ⟨hown.1, .inl ⟨rfl, rfl⟩⟩ a m c news hl hnews h1 h63 hbytes (Nat.le_refl _)
    rw [hr] at hr2
    injection hr2 with e1 e2
    subst e1; subst e2
    rcases hb : v'.ownBlock with _ | g
    · exact .inl (by rw [hb]; rfl)
    · exact .inr ⟨g, hb, (k2.lt g hb).1⟩
  · subst hsize; subst hby
    by_cases hroom : n + m ≤ cap
    · have hfit : n * i.size + news.length ≤ cur.size := by rw [hl, hcs, ← Nat.add_mul]; exact Nat.mul_le_mul_right _ hroom
      have hr2 := run_append_room (P := P) w t ty e i ht hi g n cap cur hg a m c news hl hnews h1 hroom hfit
      rw [hr] at hr2
      injection hr2 with e1 e2
      subst e1
      exact .inl rfl
    · have hsmall : n + m ≤ 9223372036854775807 := by have h := h63; simp only [maxLen] at h; omega
      have holds : ∀ j u, xs[j]? = some u → w.cell? ((⟨g, 0, none⟩ : Addr).add j) = some u := hown.cells (g := g) rfl
      have hr2 := run_append_grow (P := P) w t ty e i z ht hi hz ⟨g, 0, none⟩ n cap xs hown.1 holds a m c news hl hnews (by omega) (by omega) (growslice_fits (by omega) hbytes)
      rw [hr] at hr2
      injection hr2 with e1 e2
      subst e1
      exact .inr ⟨_, rfl, Nat.le_refl _⟩

/-- 'append(v, src...)' as 'wpList_appR', saying what block the row lies in. -/
theorem wpList_appN {P : Program} {w : World} {ops : Array Oper} {rest : List Oper} {o : Oper} {a : Act} {Q : Exit → Act → World → Prop}
    (s x : Operand) (t : TypeId) (base : Nat) (e : TypeId) (z : Value) (size bytes : Nat) (v : Value) (n : Nat) (xs : List Value) (B : Nat) (A : Option Addr) (m c : Nat) (news : List Value)
    (ht : P.underlying t = some (.slice e)) (hE : (P.info? e).map (fun i => (i.zero, i.size, i.bytes)) = some (some z, size, bytes)) (hzs : z.cells.size = size) (hsz : 0 < size)
    (hgd : o.guard = none) (ho : o.op = .call { callee := .builtin .append, args := #[s, x], argTypes := #[t, t] })
    (hs : a.eval s = v) (hx : a.eval x = .slice A m c) (hown : w.ownsRow base e size v n xs) (hr : Rd w B size A m news) (h1 : ∀ u ∈ news, u.oneCell' = true)
    (h63 : n + m ≤ 1000000) (hby : bytes ≤ 1000) (hbase : base ≤ w.heap.size)
    (h : ∀ v' w', w'.ownsRow base e size v' (n + m) (xs ++ news) → w.grownBy w' v.ownBlock → OwnNext w v v' → Below base w w' → wpList P ops Q rest (a.put o.dst v') w') :
    wpList P ops Q (o :: rest) a w := by
  obtain ⟨i, hi, hz, hsize, hbytes⟩ := info_parts hE
  have fin : ∀ v' w', (Builtin.append_ #[t, t] o.type #[v, .slice A m c]).run P w = .ok v' w' → w'.ownsRow base e size v' (n + m) (xs ++ news) → w.grownBy w' v.ownBlock → OwnNext w v v' → wpList P ops Q (o :: rest) a w := by
    intro v' w' hr h2 h3 h4
    refine wpList_plain hgd fun K hK => ?_
    unfold Oper.wp execOp
    simp only [ho, resolve, invoke, builtin, Sem.run_bind, Sem.run_pure, Result.andThen_ok, List.map_toArray, List.map_cons, List.map_nil, hs, hx, hr]
    exact hK _ _ (h v' w' h2 h3 h4 ((Below.refl base w).grown h3 hbase (fun k hk => (hown.lt k hk).1)))
  rcases A with _ | ad
  · have hm : m = 0 := by
      rcases Nat.eq_zero_or_pos m with h0 | h0
      · exact h0
      · obtain ⟨b, off, h, _⟩ := hr.2 h0
        cases h
    subst hm
    have hn : news = [] := List.eq_nil_of_length_eq_zero (by simpa using hr.1)
    subst hn
    have hrun : (Builtin.append_ #[t, t] o.type #[v, .slice none 0 c]).run P w = .ok v w := by
      rcases hown.2 with ⟨rfl, rfl⟩ | ⟨g, cap, cur, rfl, _, _, hnc, _⟩
      · simp [Builtin.append_, run_underlying ht, sizeOf, typeInfo, hi, Builtin.lenOf, Builtin.firstCells]
      · simp [Builtin.append_, run_underlying ht, sizeOf, typeInfo, hi, Builtin.lenOf, Builtin.firstCells, hnc, storeCells]
    exact fin v w hrun (by simpa using hown) (World.grownBy.refl w _) (.inl rfl)
  · have hnews : ∀ j u, news[j]? = some u → w.cell? (ad.add j) = some u := by
      intro j u hu
      rcases Nat.eq_zero_or_pos m with h0 | h0
      · subst h0
        have hn : news = [] := List.eq_nil_of_length_eq_zero (by simpa using hr.1)
        subst hn
        simp at hu
      · obtain ⟨b, off, h, _, hc⟩ := hr.2 h0
        injection h with h
        subst h
        have e1 : (⟨b, off, none⟩ : Addr).add j = ⟨b, off + j, none⟩ := by unfold Addr.add; split <;> simp_all
        rw [e1]
        exact hc j u hu
    obtain ⟨v', w', hrun, h2, h3, h4⟩ := run_append_own2 (P := P) w base t o.type e i z size bytes ht hi hz hsize hbytes hzs hsz v n xs hown ad m c news hr.1 hnews h1 (by simp only [maxLen]; omega) (Nat.le_trans (Nat.mul_le_mul h63 hby) (by decide)) hbase
    exact fin v' w' hrun h2 h3 h4
/-- A slice that is read, in another block than the row's. -/
theorem Rd.off_row {w w' : World} {B size n : Nat} {A : Option Addr} {xs : List Value} {row : Option Nat} (h : Rd w B size A n xs) (hg : w.grownBy w' row) (hB : B ≤ w.heap.size) (hne : ∀ b off, A = some ⟨b, off, none⟩ → some b ≠ row) : Rd w' B size A n xs := by
  refine ⟨h.1, fun hn => ?_⟩
  obtain ⟨b, off, e, hb, hc⟩ := h.2 hn
  refine ⟨b, off, e, hb, fun j u hu => ?_⟩
  rw [World.cell?_of_block (a := ⟨b, off + j, none⟩) (hg.block b (by omega) (hne b off e))]
  exact hc j u hu
theorem grown_after {w W w1 : World} {row : Option Nat} (hb : Below w.heap.size w W) (hg : W.grownBy w1 row) : w.grownBy w1 row :=
  ⟨hg.os.trans hb.os, hg.tape.trans hb.tape, hg.output.trans hb.output, Nat.le_trans hb.size hg.size, fun i hi hn => (hg.block i (Nat.lt_of_lt_of_le hi hb.size) hn).trans (hb.block i hi)⟩
theorem OwnNext.after {w W : World} {v v' : Value} (h : OwnNext W v v') (hs : w.heap.size ≤ W.heap.size) : OwnNext w v v' := by
  rcases h with h | ⟨g, h, h2⟩
  · exact .inl h
  · exact .inr ⟨g, h, by omega⟩
theorem Box.row {w w' : World} {b : Nat} {cs : Array Value} {row : Option Nat} (h : Box w b cs) (hg : w.grownBy w' row) (hne : some b ≠ row) : Box w' b cs := by
  have hblk := hg.block b h.2.2 hne
  refine ⟨fun i => ?_, fun i => ?_, heap_some hblk h.2.2⟩
  · rw [World.cell?_of_block (a := ⟨b, i, none⟩) hblk]; exact h.1 i
  · rw [frozen_of_block (p := ⟨b, i, none⟩) hblk]; exact h.2.1 i
/-- A block below a row's base is not the row's. -/
theorem ne_row {w : World} {base b : Nat} {e : TypeId} {size n : Nat} {v : Value} {xs : List Value} (h : w.ownsRow base e size v n xs) (hb : b < base) : some b ≠ v.ownBlock := by
  intro hh
  have := (h.lt b hh.symm).1
  omega
theorem below_row {w w' w0 : World} {base B : Nat} {e : TypeId} {size n : Nat} {v : Value} {xs : List Value} (hb : Below B w0 w) (h : w.ownsRow base e size v n xs) (hg : w.grownBy w' v.ownBlock) (hB : B ≤ base) (hs : B ≤ w.heap.size) : Below B w0 w' :=
  hb.grown hg hs (fun k hk => by have := (h.lt k hk).1; omega)
end Go.Proofs.Ytoliplochipoeaa

/- Drawn regions: a start with blocks that are written; append as one operation. -/
set_option linter.unusedVariables false
set_option linter.unusedSimpArgs false
namespace Go.Proofs.Ytoliplochipoeaa
open Go.RowKit

section
variable {P : Program} {ops : Array Oper} {Q : Exit → Act → World → Prop}
theorem rgx_start_x {X : Nat → Prop} {id : Nat} {a : Act} {w : World} (hm : P.follows .mixedOrders = true) (h : RgX P X ops Q ops.size (Array.replicate ops.size false) a w.drew) : (Code.region id ops true).wp P Q a w :=
  rgs_start _ hm h
/-- 'append(v, src...)' in a drawn region. -/
theorem wp_appN {w : World} {o : Oper} {a : Act} {K : Act → World → Prop} {R : Exit → Act → World → Prop}
    (s x : Operand) (t : TypeId) (base : Nat) (e : TypeId) (z : Value) (size bytes : Nat) (v : Value) (n : Nat) (xs : List Value) (A : Addr) (m c : Nat) (news : List Value)
    (ht : P.underlying t = some (.slice e)) (hE : (P.info? e).map (fun i => (i.zero, i.size, i.bytes)) = some (some z, size, bytes)) (hzs : z.cells.size = size) (hsz : 0 < size)
    (ho : o.op = .call { callee := .builtin .append, args := #[s, x], argTypes := #[t, t] })
    (hs : a.eval s = v) (hx : a.eval x = .slice (some A) m c) (hown : w.ownsRow base e size v n xs) (hl : news.length = m * size) (hnews : ∀ j u, news[j]? = some u → w.cell? (A.add j) = some u) (h1 : ∀ u ∈ news, u.oneCell' = true)
    (h63 : n + m ≤ 1000000) (hby : bytes ≤ 1000) (hbase : base ≤ w.heap.size)
    (h : ∀ v' w', w'.ownsRow base e size v' (n + m) (xs ++ news) → w.grownBy w' v.ownBlock → OwnNext w v v' → Below base w w' → K (a.put o.dst v') w') :
    o.wp P a w K R := by
  obtain ⟨i, hi, hz, hsize, hbytes⟩ := info_parts hE
  obtain ⟨v', w', hrun, h2, h3, h4⟩ := run_append_own2 (P := P) w base t o.type e i z size bytes ht hi hz hsize hbytes hzs hsz v n xs hown A m c news hl hnews h1 (by simp only [maxLen]; omega) (Nat.le_trans (Nat.mul_le_mul h63 hby) (by decide)) hbase
  unfold Oper.wp execOp
  simp only [ho, resolve, invoke, builtin, Sem.run_bind, Sem.run_pure, Result.andThen_ok, List.map_toArray, List.map_cons, List.map_nil, hs, hx, hrun]
  exact h v' w' h2 h3 h4 ((Below.refl base w).grown h3 hbase (fun k hk => (hown.lt k hk).1))
theorem wp_appR {w : World} {o : Oper} {a : Act} {K : Act → World → Prop} {R : Exit → Act → World → Prop}
    (s x : Operand) (t : TypeId) (base : Nat) (e : TypeId) (z : Value) (size bytes : Nat) (v : Value) (n : Nat) (xs : List Value) (B : Nat) (A : Addr) (m c : Nat) (news : List Value)
    (ht : P.underlying t = some (.slice e)) (hE : (P.info? e).map (fun i => (i.zero, i.size, i.bytes)) = some (some z, size, bytes)) (hzs : z.cells.size = size) (hsz : 0 < size)
    (ho : o.op = .call { callee := .builtin .append, args := #[s, x], argTypes := #[t, t] })
    (hs : a.eval s = v) (hx : a.eval x = .slice (some A) m c) (hown : w.ownsRow base e size v n xs) (hr : Rd w B size (some A) m news) (h1 : ∀ u ∈ news, u.oneCell' = true)
    (h63 : n + m ≤ 1000000) (hby : bytes ≤ 1000) (hbase : base ≤ w.heap.size)
    (h : ∀ v' w', w'.ownsRow base e size v' (n + m) (xs ++ news) → w.grownBy w' v.ownBlock → OwnNext w v v' → Below base w w' → K (a.put o.dst v') w') :
    o.wp P a w K R := by
  refine wp_appN s x t base e z size bytes v n xs A m c news ht hE hzs hsz ho hs hx hown hr.1 ?_ h1 h63 hby hbase h
  intro j u hu
  rcases Nat.eq_zero_or_pos m with h0 | h0
  · subst h0
    have hn : news = [] := List.eq_nil_of_length_eq_zero (by simpa using hr.1)
    subst hn
    simp at hu
  · obtain ⟨b, off, h, _, hc⟩ := hr.2 h0
    injection h with h
    subst h
    have e1 : (⟨b, off, none⟩ : Addr).add j = ⟨b, off + j, none⟩ := by unfold Addr.add; split <;> simp_all
    rw [e1]
    exact hc j u hu
end
theorem Mem.of_grown {X : Nat → Prop} {w w' : World} {row : Option Nat} (h : w.grownBy w' row) (hr : ∀ b, row = some b → X b) : Mem X w w' :=
  ⟨h.size, fun b hb hn => h.block b hb (fun e => hn (hr b e.symm))⟩
end Go.Proofs.Ytoliplochipoeaa

/- The receiver: take (gives the frame away). -/
set_option linter.unusedVariables false
set_option linter.unusedSimpArgs false
namespace Go.Proofs.Ytoliplochipoeaa
open Go.RowKit

abbrev iptr (g : Nat) : Value := .pointer (some ⟨g, 0, none⟩)
abbrev frmA (bs : Value) (fi la fl : Int) : Array Value := #[bs, .int .i64 fi, .int .i64 la, .int .i64 fl]
/-- A frame is written over the receiver's. -/
theorem box_put_frame {w : World} {g : Nat} {ch t15 t35 : Int} {bs : Value} {fi la fl : Int} {ac : Bool} {lt id_ : Int} (h : Box w g (rcvCells ch t15 t35 bs fi la fl ac lt id_)) (bs' : Value) (fi' la' fl' : Int) :
    Box ((((w.setCell ⟨g, 3, none⟩ bs').setCell ⟨g, 4, none⟩ (.int .i64 fi')).setCell ⟨g, 5, none⟩ (.int .i64 la')).setCell ⟨g, 6, none⟩ (.int .i64 fl')) g (rcvCells ch t15 t35 bs' fi' la' fl' ac lt id_) :=
  (((h.set (k := 3) (v := bs') (cs' := rcvCells ch t15 t35 bs' fi la fl ac lt id_) (by simp [rcvCells]) rfl).set (k := 4) (v := .int .i64 fi') (cs' := rcvCells ch t15 t35 bs' fi' la fl ac lt id_) (by simp [rcvCells]) rfl).set (k := 5) (v := .int .i64 la') (cs' := rcvCells ch t15 t35 bs' fi' la' fl ac lt id_) (by simp [rcvCells]) rfl).set (k := 6) (v := .int .i64 fl') (cs' := rcvCells ch t15 t35 bs' fi' la' fl' ac lt id_) (by simp [rcvCells]) rfl
abbrev zfrm : Obj := .cells #[.slice none 0 0, .int .i64 0, .int .i64 0, .int .i64 0] 46
set_option maxHeartbeats 1000000 in
theorem take_any (ch t15 t35 : Int) (A : Option Addr) (n c : Nat) (fi la fl : Int) (ac : Bool) (lt id_ : Int) (g : Nat) (w : World) (hB : Box w g (rcvCells ch t15 t35 (.slice A n c) fi la fl ac lt id_)) :
    Calls Try.prog 33 #[iptr g] w fun e w' => e = .returned (.agg #[.slice A n c, .int .i64 fi, .int .i64 la, .int .i64 fl]) ∧ Box w' g (rcvCells ch t15 t35 (.slice none 0 0) 0 0 0 false lt id_) ∧ w.grownBy w' (some g) := by
  have hgl := Lib.hid hB.2.2
  have HB0 := Lib.hid (hB.alloc' (.cells #[.slice none 0 0, .int .i64 0, .int .i64 0, .int .i64 0] 46))
  obtain ⟨q, z, l⟩ := HB0.out
  unfold rcvCells at q
  go_enter Try.func33, Try.ntmps33
  go_upto_region 2 with fail
  obtain ⟨W2, hW2⟩ : ∃ W, (w.alloc (.cells #[.slice none 0 0, .int .i64 0, .int .i64 0, .int .i64 0] 46)).alloc (.cells #[.slice A n c, .int .i64 fi, .int .i64 la, .int .i64 fl] 46) = W := ⟨_, rfl⟩
  have HBr := Lib.hid (show Box W2 (w.heap.size + 1) #[.slice A n c, .int .i64 fi, .int .i64 la, .int .i64 fl] by rw [← hW2]; have := Box.alloc_ (w := w.alloc (.cells #[.slice none 0 0, .int .i64 0, .int .i64 0, .int .i64 0] 46)) (cs := #[.slice A n c, .int .i64 fi, .int .i64 la, .int .i64 fl]) (e := 46); simpa using this)
  have HBz := Lib.hid (show Box W2 w.heap.size #[.slice none 0 0, .int .i64 0, .int .i64 0, .int .i64 0] by rw [← hW2]; exact Box.alloc' Box.alloc_ _)
  have HB2 := Lib.hid (show Box W2 g _ by rw [← hW2]; exact HB0.out.alloc' _)
  have HG2 := Lib.hid (show w.grownBy W2 (some g) by rw [← hW2]; exact one_alloc (one_alloc (one_refl w g) _) _)
  rw [hW2]
  obtain ⟨b2, hb2⟩ : ∃ b, w.heap.size = b := ⟨_, rfl⟩
  have HBN := Lib.hid (show w.heap.size ≤ b2 by omega)
  have HNE := Lib.hid (show g ≠ b2 ∧ g ≠ b2 + 1 by have := hgl.out; omega)
  rw [hb2] at HBr HBz ⊢
  clear hW2 q z l hB HB0 hb2 hgl
  obtain ⟨q, z, l⟩ := HB2.out
  unfold rcvCells at q
  have HB3 := Lib.hid ((box_put_frame HB2.out (.slice none 0 0) 0 0 0).set (k := 7) (v := .bool false) (cs' := rcvCells ch t15 t35 (.slice none 0 0) 0 0 0 false lt id_) (by simp [rcvCells]) rfl)
  have HG3 := Lib.hid (one_set (one_set (one_set (one_set (one_set (one_refl W2 g) 3 (.slice none 0 0)) 4 (.int .i64 0)) 5 (.int .i64 0)) 6 (.int .i64 0)) 7 (.bool false))
  go_upto_region 3 with fail
  obtain ⟨W3, hW3⟩ : ∃ W, (((((W2.setCell ⟨g, 3, none⟩ (.slice none 0 0)).setCell ⟨g, 4, none⟩ (.int .i64 0)).setCell ⟨g, 5, none⟩ (.int .i64 0)).setCell ⟨g, 6, none⟩ (.int .i64 0)).setCell ⟨g, 7, none⟩ (.bool false)) = W := ⟨_, rfl⟩
  rw [hW3] at HB3 HG3 ⊢
  have HBr3 := Lib.hid (HBr.out.grown HG3.out (Ne.symm HNE.out.2))
  have HBz3 := Lib.hid (HBz.out.grown HG3.out (Ne.symm HNE.out.1))
  have hG4 : w.grownBy W3 (some g) := by rw [← hW3]; exact one_set (one_set (one_set (one_set (one_set HG2.out 3 _) 4 _) 5 _) 6 _) 7 _
  have HBF := Lib.hid ((((HBz3.out.set (k := 0) (v := .slice A n c) (cs' := #[.slice A n c, .int .i64 0, .int .i64 0, .int .i64 0]) (by simp) rfl).set (k := 1) (v := .int .i64 fi) (cs' := #[.slice A n c, .int .i64 fi, .int .i64 0, .int .i64 0]) (by simp) rfl).set (k := 2) (v := .int .i64 la) (cs' := #[.slice A n c, .int .i64 fi, .int .i64 la, .int .i64 0]) (by simp) rfl).set (k := 3) (v := .int .i64 fl) (cs' := #[.slice A n c, .int .i64 fi, .int .i64 la, .int .i64 fl]) (by simp) rfl)
  have HGF := Lib.hid (one_set_new (one_set_new (one_set_new (one_set_new hG4 HBN.out 0 (.slice A n c)) HBN.out 1 (.int .i64 fi)) HBN.out 2 (.int .i64 la)) HBN.out 3 (.int .i64 fl))
  have HGZ := Lib.hid (one_set (one_set (one_set (one_set (one_refl W3 b2) 0 (.slice A n c)) 1 (.int .i64 fi)) 2 (.int .i64 la)) 3 (.int .i64 fl))
  clear hW3 q z l HB2 HG2 HBr HBz hG4
  obtain ⟨q3, z3, l3⟩ := HBr3.out
  obtain ⟨qz, zz, lz⟩ := HBz3.out
  go_wp2
  obtain ⟨qf, zf, lf⟩ := HBF.out
  refine bodyPost_ret (v := .agg #[.slice A n c, .int .i64 fi, .int .i64 la, .int .i64 fl]) (by simp [results, Try.results33, go_sem, qf, zf, lf]) rfl ⟨rfl, HB3.out.grown HGZ.out HNE.out.1, HGF.out⟩
end Go.Proofs.Ytoliplochipoeaa


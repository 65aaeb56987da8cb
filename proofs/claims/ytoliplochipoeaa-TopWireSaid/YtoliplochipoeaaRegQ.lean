/- In a region that draws its order: a call that leaves the world as it is may be taken first. -/
import Derived.Test.YtoliplochipoeaaRegS
set_option linter.unusedVariables false
set_option linter.unusedSimpArgs false
namespace Go.Proofs.Ytoliplochipoeaa
open Go.RowKit

section
variable {P : Program} {ops : Array Oper} {Q : Exit → Act → World → Prop} {S : World → Prop}
/-- In state a, in every world that meets S, operation o leaves v in its slot and does nothing else, whoever comes behind. -/
def QuietAt (P : Program) (Q : Exit → Act → World → Prop) (S : World → Prop) (o : Oper) (v : Value) (a : Act) : Prop :=
  ∀ w, S w → ∀ K : Act → World → Prop, K (a.put o.dst v) w → o.wp P a w K (QNS Q)

theorem wp_moved {o : Oper} {a : Act} {w : World} (T : Act → Act) (he : execOp (T a).eval o = execOp a.eval o) (hT : ∀ u, (T a).put o.dst u = T (a.put o.dst u))
    (hD : ∀ d w', (execOp a.eval o).run P w ≠ .ok (.defer d) w') {K : Act → World → Prop}
    (h : o.wp P a w (fun a1 w1 => K (T a1) w1) (QNS Q)) : o.wp P (T a) w K (QNS Q) := by
  unfold Oper.wp at *
  rw [he]
  generalize (execOp a.eval o).run P w = r at *
  cases r with
  | ok n w' =>
    cases n <;> simp only [Oper.upon] at h ⊢
    case value u => rw [hT]; exact h
    case skip => rw [hT]; exact h
    case defer d => exact absurd rfl (hD d w')
    case enter f args =>
      refine Calls.mono h fun e w'' k => ?_
      cases e with
      | returned u => simp only at k ⊢; rw [hT]; exact k
      | panicked c => exact absurd k.1 (by simp)
      | outgrown => exact k
    case row row args => exact Rows.mono h fun u w'' k => by rw [hT]; exact k
  | halt x w' =>
    cases x <;> simp only [Oper.upon] at h ⊢
    case panic u => exact absurd h.1 (by simp)

theorem QuietAt.noDefer {o : Oper} {v : Value} {a : Act} (h : QuietAt P Q S o v a) {w : World} (hS : S w) (d : Deferred) (w' : World) : (execOp a.eval o).run P w ≠ .ok (.defer d) w' := by
  intro e
  have k := h w hS (fun a1 _ => a1.defers = a.defers) (by cases o.dst <;> rfl)
  unfold Oper.wp at k
  rw [e] at k
  simp only [Oper.upon] at k
  have k2 : (({ a with defers := d :: a.defers } : Act).put o.dst undef).defers = d :: a.defers := by cases o.dst <;> rfl
  rw [k2] at k
  have := congrArg List.length k
  simp at this
theorem QuietAt.put {o oj : Oper} {v : Value} {a : Act} (h : QuietAt P Q S o v a) (hs : ∀ cs b, o.op ≠ .select cs b) (h2 : ∀ d, o.dst = some d → oj.dst ≠ some d) (h3 : ∀ d, oj.dst = some d → d ∉ o.looksAt ops) (u : Value) : QuietAt P Q S o v (a.put oj.dst u) := by
  intro w hS K hK
  refine wp_moved (fun x => x.put oj.dst u) (execOp_put o hs a oj.dst u h3) (fun x => (Act.put_comm a x u h2).symm) (fun d x => h.noDefer hS d x) (h w hS _ ?_)
  · rw [Act.put_comm a v u h2]; exact hK
theorem QuietAt.defer {o : Oper} {v : Value} {a : Act} (h : QuietAt P Q S o v a) (d : Deferred) : QuietAt P Q S o v { a with defers := d :: a.defers } := by
  intro w hS K hK
  refine wp_moved (fun x => { x with defers := d :: x.defers }) rfl (fun x => (Act.put_defers a o.dst x d).symm) (fun e x => h.noDefer hS e x) (h w hS _ ?_)
  · rw [Act.put_defers]; exact hK

theorem wpOp_putQ {j : Nat} {oi oj : Oper} {v : Value} (hj : ops[j]? = some oj) (hap : oi.apart ops oj = true) (hsi : ∀ cs b, oi.op ≠ .select cs b) (hsj : ∀ cs b, oj.op ≠ .select cs b) {K : Act → World → Prop} {a : Act} {w : World}
    (hw : Region.wanted oi (yielded ops a.tmps) = true) (hy : QuietAt P Q S oi v a) (h : wpOp P ops (QNS Q) j K (a.put oi.dst v) w) :
    wpOp P ops (QNS Q) j (fun a' w' => (Region.wanted oi (yielded ops a'.tmps) = true ∧ QuietAt P Q S oi v a') ∧ K (a'.put oi.dst v) w') a w := by
  obtain ⟨h1, h2, h3⟩ := Oper.apart_spec hap
  have kp : ∀ (b : Act), (Region.wanted oi (yielded ops b.tmps) = true ∧ QuietAt P Q S oi v b) → ∀ u, Region.wanted oi (yielded ops (b.put oj.dst u).tmps) = true ∧ QuietAt P Q S oi v (b.put oj.dst u) :=
    fun b hb u => ⟨(wanted_put oi b oj.dst u h3).trans hb.1, hb.2.put hsi h2 h3 u⟩
  have kd : ∀ d, Region.wanted oi (yielded ops ({ a with defers := d :: a.defers } : Act).tmps) = true ∧ QuietAt P Q S oi v { a with defers := d :: a.defers } := fun d => ⟨hw, hy.defer d⟩
  unfold wpOp at *
  simp only [hj] at *
  rw [wanted_put oj a oi.dst v h1] at h
  by_cases hwj : Region.wanted oj (yielded ops a.tmps) = true
  · rw [if_pos hwj] at h ⊢
    rcases h with h | ⟨hasks, hlets⟩
    · left
      unfold Oper.wp at *
      rw [execOp_put oj hsj a oi.dst v h1] at h
      generalize (execOp a.eval oj).run P w = r at *
      cases r with
      | ok n w' =>
        cases n <;> simp only [Oper.upon] at h ⊢
        case value u => exact ⟨kp a ⟨hw, hy⟩ u, by rw [← Act.put_comm a v u h2]; exact h⟩
        case skip => exact ⟨kp a ⟨hw, hy⟩ _, by rw [← Act.put_comm a v undef h2]; exact h⟩
        case defer d =>
          refine ⟨kp _ (kd d) _, ?_⟩
          rw [← Act.put_comm _ v undef h2, ← Act.put_defers]
          exact h
        case enter f args =>
          refine Calls.mono h fun e w'' k => ?_
          cases e with
          | returned u => exact ⟨kp a ⟨hw, hy⟩ u, by rw [← Act.put_comm a v u h2]; exact k⟩
          | panicked c => exact absurd k.1 (by simp)
          | outgrown => exact k
        case row row args => exact Rows.mono h fun u w'' k => ⟨kp a ⟨hw, hy⟩ u, by rw [← Act.put_comm a v u h2]; exact k⟩
      | halt x w' =>
        cases x <;> simp only [Oper.upon] at h ⊢
        case panic u => exact absurd h.1 (by simp)
    · right
      refine ⟨?_, hlets⟩
      unfold Oper.asks at *
      rw [execOp_put oj hsj a oi.dst v h1] at hasks
      exact hasks
  · rw [if_neg hwj] at h ⊢
    exact ⟨kp a ⟨hw, hy⟩ _, by rw [← Act.put_comm a v undef h2]; exact h⟩

theorem quiet_first {i : Nat} {oi : Oper} {v : Value} (hi : ops[i]? = some oi) (hsel : ∀ (j : Nat) (o : Oper) cs b, ops[j]? = some o → o.op ≠ .select cs b) :
    ∀ (fuel : Nat) (listed : Array Bool) (a : Act) (w : World),
      (∀ j oj, ops[j]? = some oj → j ≠ i → listed.getD j true = false → (∀ e ∈ oj.after, Region.binds .any e = true → e.on ≠ i) → oi.apart ops oj = true) →
      i ∈ Region.ready .any ops listed → Region.wanted oi (yielded ops a.tmps) = true → QuietAt P Q S oi v a → S w →
      RgS P S ops Q fuel (listed.setIfInBounds i true) (a.put oi.dst v) w → RgS P S ops Q (fuel + 1) listed a w := by
  intro fuel
  have self : ∀ {K : Act → World → Prop} {a : Act} {w : World}, Region.wanted oi (yielded ops a.tmps) = true → QuietAt P Q S oi v a → S w → K (a.put oi.dst v) w → wpOp P ops (QNS Q) i K a w := by
    intro K a w hw hy hS hK
    unfold wpOp
    simp only [hi, hw, if_true]
    exact .inl (hy w hS K hK)
  induction fuel with
  | zero =>
    intro listed a w _ hr hw hy hS H
    refine ⟨fun h => (by rw [h] at hr; cases hr), fun j hj => ?_⟩
    by_cases hji : j = i
    · subst hji; exact self hw hy hS ⟨hS, H⟩
    · have := ready_mono hj hji
      rw [H.1] at this
      cases this
  | succ fuel ih =>
    intro listed a w hfree hr hw hy hS H
    refine ⟨fun h => (by rw [h] at hr; cases hr), fun j hj => ?_⟩
    by_cases hji : j = i
    · subst hji; exact self hw hy hS ⟨hS, H⟩
    · have g1 := H.2 j (ready_mono hj hji)
      obtain ⟨hjun, oj, hoj, hall⟩ := mem_ready.1 hj
      have hnot : ∀ e ∈ oj.after, Region.binds .any e = true → e.on ≠ i := fun e he hb heq => by
        have k1 := hall e he hb
        have k0 := (mem_ready.1 hr).1
        rw [heq] at k1
        rcases Nat.lt_or_ge i listed.size with h' | h'
        · simp [h'] at k0 k1; rw [k0] at k1; cases k1
        · simp [Array.getElem?_eq_none h'] at k1
      have g2 := wpOp_putQ hoj (hfree j oj hoj hji hjun hnot) (fun cs b => hsel i oi cs b hi) (fun cs b => hsel j oj cs b hoj) hw hy g1
      refine wpOp_mono (fun a' w' g3 => ⟨g3.2.1, ih (listed.setIfInBounds j true) a' w' ?_ (ready_mono hr (Ne.symm hji)) g3.1.1 g3.1.2 g3.2.1 ?_⟩) g2
      · intro k ok hk hki hun hno
        refine hfree k ok hk hki ?_ hno
        by_cases hjk : j = k
        · subst hjk; exact hjun
        · rw [getD_set_ne true hjk] at hun; exact hun
      · rw [Array.setIfInBounds_comm _ _ hji]
        exact g3.2.2
/-- Operation i is a call that leaves the world as it is: it is taken now. -/
theorem rgs_q (d : Option Tmp) (i : Nat) {oi : Oper} {v : Value} {fuel : Nat} {listed : Array Bool} {a : Act} {w : World}
    (hc : (Region.noSelect ops && Region.free .any ops listed i && (Region.ready .any ops listed).contains i) = true) (hi : ops[i]? = some oi) (hd : oi.dst = d) (hS : S w)
    (hw : Region.wanted oi (yielded ops a.tmps) = true) (hy : ∀ w', S w' → ∀ K : Act → World → Prop, K (a.put d v) w' → oi.wp P a w' K (QNS Q))
    (h : RgS P S ops Q fuel (listed.setIfInBounds i true) (a.put d v) w) : RgS P S ops Q (fuel + 1) listed a w := by
  subst hd
  simp only [Bool.and_eq_true] at hc
  exact quiet_first hi (Region.noSelect_spec hc.1.1) fuel listed a w (Region.free_spec hi hc.1.2) (by simpa using hc.2) hw hy hS h
end
end Go.Proofs.Ytoliplochipoeaa

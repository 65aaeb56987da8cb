/- The reference's Slave: a valid slave. -/
import Derived.Test.YtipcnpnfdoainaaSlB
import Derived.Test.YtipcnpnfdoainaaSlQ
import Derived.Test.YtipcnpnfdoainaaSlS
import Derived.Test.YtipcnpnfdoainaaRegS
import Derived.Deep.DeepCutAuto
set_option linter.unusedVariables false
set_option linter.unusedSimpArgs false
namespace Go.Proofs.Ytipcnpnfdoainaa
open Go.RowKit

def tbOk (k : Nat) (t : Tb) : Bool := if t.sup then decide (t.n ≤ 32) && validL t.rs && decide (1 ≤ t.most) && decide (t.most ≤ slimZ ((k : Int) + 1)) else decide (t.n = 0) && decide (t.most = 0)
def topId (l : List Ob) : Int := (l.getLastD ⟨0, none, 0, 0, []⟩).id
def objB (S : Sl) : Bool := decide (S.on_ ≤ 16) && rising S.obs && decide (3 ≤ S.on_) && decide (S.obs[2]?.map Ob.id = some 2) && !(decide (S.lv = 1) && decide (2 < topId S.obs)) && !(decide (S.lv = 2) && decide (127 < topId S.obs)) && S.obs.all (fun o => decide (o.n ≤ 64))
def headB (S : Sl) : Bool := validB S.b S.p && decide (1 ≤ S.u ∧ S.u ≤ 247 ∧ 0 ≤ S.lv ∧ S.lv ≤ 3)
def midB (S : Sl) : Bool := !(decide (S.lv = 0) && decide (S.on_ ≠ 0)) && (S.hs == decide (0 < S.sn)) && decide (S.sn ≤ 64)
def slB (S : Sl) : Bool := headB S && all4 (fun k => tbOk k (S.tb k)) && midB S && (decide (S.lv = 0) || objB S)
theorem slB_of {S : Sl} (h : slB S = true) : headB S = true ∧ (∀ k, k < 4 → tbOk k (S.tb k) = true) ∧ midB S = true ∧ (S.lv = 0 ∨ objB S = true) := by
  simp only [slB, Bool.and_eq_true, all4_iff, Bool.or_eq_true, decide_eq_true_eq] at h
  exact ⟨h.1.1.1, h.1.1.2, h.1.2, h.2⟩
end Go.Proofs.Ytipcnpnfdoainaa

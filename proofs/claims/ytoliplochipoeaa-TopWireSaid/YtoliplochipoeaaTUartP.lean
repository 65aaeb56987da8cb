/- Plain facts on characters: one changed bit. -/
import Derived.Test.YtoliplochipoeaaTUartL
set_option linter.unusedVariables false
set_option linter.unusedSimpArgs false
namespace Go.Proofs.Ytoliplochipoeaa
theorem one_bools (l : List Bool) : ∀ u ∈ l.map Value.bool, u.oneCell' = true := by
  intro u hu
  obtain ⟨x, _, rfl⟩ := List.mem_map.1 hu
  rfl
def flipAt (b : Nat) (p : Int) (k : Nat) : List Bool := (encode b p).set k (!bt (encode b p) k)
def wantF (p : Int) (k : Nat) : Int := if k = 10 ∨ k = 9 ∧ p = 0 then 2 else if p = 0 then 0 else 1
theorem flip_all : ∀ k : Fin 10, ∀ b : Fin 256, ∀ p : Fin 3, (decode (flipAt b (p : Nat) (k + 1)) (p : Nat)).2 = (wantF (p : Nat) (k + 1), true) ∧ decide (9 ≤ (k : Nat) + 1) = ((decode (flipAt b (p : Nat) (k + 1)) (p : Nat)).1 == (b : Nat)) := by decide +kernel
theorem flip_dec (b : Nat) (hb : b ≤ 255) (p : Int) (hp : 0 ≤ p ∧ p ≤ 2) (k : Nat) (hk : 1 ≤ k ∧ k ≤ 10) : ∃ x : Nat, decode (flipAt b p k) p = (x, wantF p k, true) ∧ decide (9 ≤ k) = (x == b) := by
  have h := flip_all ⟨k - 1, by omega⟩ ⟨b, by omega⟩ ⟨p.toNat, by omega⟩
  have e1 : k - 1 + 1 = k := by omega
  have e2 : ((p.toNat : Nat) : Int) = p := Int.toNat_of_nonneg hp.1
  simp only [e1, e2] at h
  exact ⟨_, Prod.ext rfl h.1, h.2⟩


end Go.Proofs.Ytoliplochipoeaa

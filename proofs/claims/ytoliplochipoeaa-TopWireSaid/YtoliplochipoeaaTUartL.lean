/- The example of chapter 7, and the laws UartRound, UartDecode, UartFlip, UartMismatch as contracts. -/
import Derived.Test.YtoliplochipoeaaTUartS
set_option linter.unusedVariables false
set_option linter.unusedSimpArgs false
namespace Go.Proofs.Ytoliplochipoeaa
open Go.RowKit

/-! ### The contracts with their results named, so that the walk sees no equation -/
theorem encode_eq (b : Nat) (hb : b ≤ 255) (p : Int) (l : List Bool) (n : Nat) (hl : encode b p = l) (hn : l.length = n) (w : World) : Calls Try.prog 10 #[.int .u8 b, .int .i64 p] w fun e w' =>
    ∃ A c, e = .returned (.slice A n c) ∧ w'.ownsRow w.heap.size 4 1 (.slice A n c) n (l.map Value.bool) ∧ Rd w' w'.heap.size 1 A n (l.map Value.bool) ∧ Below w.heap.size w w' := by
  subst hl; subst hn
  refine (encode_any b hb p w).mono ?_
  rintro e w' ⟨v, rfl, hown, hbel⟩
  obtain ⟨A, c, rfl, _, hR⟩ := own_form hown
  exact ⟨A, c, rfl, hown, hR, hbel⟩
theorem decode_eq (l : List Bool) (n : Nat) (A : Option Addr) (c B : Nat) (p : Int) (b : Nat) (f : Int) (o : Bool) (w : World) (hr : Rd w B 1 A n (l.map Value.bool)) (hd : decode l p = (b, f, o)) :
    Calls Try.prog 28 #[.slice A n c, .int .i64 p] w fun e w' => e = .returned (.tuple #[.int .u8 b, .int .i64 f, .bool o]) ∧ Below w.heap.size w w' := by
  have hn : l.length = n := by have := hr.1; simpa using this
  subst hn
  refine (decode_any l A c B p w hr).mono ?_
  rw [hd]
  rintro e w' ⟨rfl, m, rfl⟩
  exact ⟨rfl, below_drewN (Below.refl _ _) _⟩
theorem dec_enc (b : Nat) (hb : b ≤ 255) (p : Int) (hp : 0 ≤ p ∧ p ≤ 2) : decode (encode b p) p = (b, 0, true) := by
  have : ∀ b : Fin 256, decode (encode b 0) 0 = ((b : Nat), 0, true) ∧ decode (encode b 1) 1 = ((b : Nat), 0, true) ∧ decode (encode b 2) 2 = ((b : Nat), 0, true) := by decide +kernel
  have h := this ⟨b, by omega⟩
  rcases (show p = 0 ∨ p = 1 ∨ p = 2 by omega) with rfl | rfl | rfl
  · exact h.1
  · exact h.2.1
  · exact h.2.2
theorem enc_length (b : Nat) (p : Int) (hp : 0 ≤ p ∧ p ≤ 2) : (encode b p).length = 11 := by rw [encode, if_pos hp]; simp [bitsOf_length]

end Go.Proofs.Ytoliplochipoeaa

/- Layer 7: the reference's Stream; the law UartStream. -/
import Derived.Test.YtoliplochipoeaaTUartT
import Derived.Test.YtoliplochipoeaaTUartM
set_option linter.unusedVariables false
set_option linter.unusedSimpArgs false
namespace Go.Proofs.Ytoliplochipoeaa
open Go.RowKit

def streamL (l : List Bool) (p : Int) : List UEv := if 0 ≤ p ∧ p ≤ 2 then chars l p 0 else []
theorem stream_eq (l : List Bool) (n : Nat) (es : List UEv) (m : Nat) (A : Option Addr) (c B : Nat) (p : Int) (w : World) (hr : Rd w B 1 A n (l.map Value.bool)) (hlc : n ≤ c) (hc : c ≤ maxLen) (hn : n ≤ 100000) (he : streamL l p = es) (hm : es.length = m) :
    Calls Try.prog 11 #[.slice A n c, .int .i64 p] w fun e w' =>
    ∃ A c, e = .returned (.slice A m c) ∧ w'.ownsRow w.heap.size 40 3 (.slice A m c) m (uevCells es) ∧ Below w.heap.size w w' := by
  obtain rfl : l.length = n := by have := hr.1; simpa using this
  subst hm
  by_cases hp : 0 ≤ p ∧ p ≤ 2
  · rw [streamL, if_pos hp] at he
    subst he
    refine (stream_any l A c B p w hr hlc hc hn hp).mono ?_
    rintro e w' ⟨v, rfl, hown, hb⟩
    obtain ⟨A, c, rfl, _, _⟩ := own_form hown
    exact ⟨A, c, rfl, hown, hb⟩
  · rw [streamL, if_neg hp] at he
    subst he
    have hd : decide (0 ≤ p ∧ p ≤ 2) = false := by simpa using hp
    clear hp hr hlc hc hn
    go_enter Try.func11, Try.ntmps11
    go_wp2_with (go_at_call 25; refine (possible_any _ _).mono ?_; rintro e w' ⟨rfl, rfl⟩)
    go_ret
    exact ⟨none, 0, rfl, World.ownsRow_nil _ _ _ _, Below.refl _ _⟩
theorem uevCells_get (l : List UEv) (k : Nat) (hk : k < l.length) : (uevCells l)[k * 3]? = some (.int .i64 l[k].at_) ∧ (uevCells l)[k * 3 + 1]? = some (.int .u8 l[k].val) ∧ (uevCells l)[k * 3 + 2]? = some (.int .i64 l[k].fl) := by
  have h : ∀ r ∈ l.map uevRow, r.length = 3 := by intro r hr; obtain ⟨o, _, rfl⟩ := List.mem_map.1 hr; rfl
  have g := fun j (hj : j < 3) => flatten_get h k j (by simpa using hk) hj
  refine ⟨?_, ?_, ?_⟩
  · have := g 0 (by omega); simpa [uevCells, uevRow] using this
  · have := g 1 (by omega); simpa [uevCells, uevRow] using this
  · have := g 2 (by omega); simpa [uevCells, uevRow] using this
/-- The cells of an event in a row of the call's own. -/
theorem uev_cells {w : World} {B n : Nat} {A : Option Addr} {l : List UEv} (h : Rd w B 3 A n (uevCells l)) (k : Nat) (hk : k < l.length) (hkn : k < n) :
    ∃ b off, A = some ⟨b, off, none⟩ ∧ w.cell? ⟨b, off + k * 3, none⟩ = some (.int .i64 l[k].at_) ∧ w.cell? ⟨b, off + k * 3 + 1, none⟩ = some (.int .u8 l[k].val) ∧ w.cell? ⟨b, off + k * 3 + 2, none⟩ = some (.int .i64 l[k].fl) := by
  obtain ⟨b, off, e, _, hc⟩ := h.2 (by omega)
  obtain ⟨h0, h1, h2⟩ := uevCells_get l k hk
  exact ⟨b, off, e, hc _ _ h0, hc _ _ h1, hc _ _ h2⟩

end Go.Proofs.Ytoliplochipoeaa

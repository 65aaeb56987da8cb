/- Layer 7: the law UartLine: the plain law, and the walk. -/
import Derived.Test.YtoliplochipoeaaTUartU
import Derived.Test.YtoliplochipoeaaMake
import Derived.Test.YtoliplochipoeaaBytes
import Derived.IntWalk
import Derived.Test.YtoliplochipoeaaTUartP
set_option linter.unusedVariables false
set_option linter.unusedSimpArgs false
namespace Go.Proofs.Ytoliplochipoeaa
open Go.RowKit

section
variable (bs ds : Nat → Nat) (p : Int)
/-- The bits of the first k characters, with idle bits between them. -/
def lineTo : Nat → List Bool
  | 0 => []
  | k + 1 => lineTo k ++ List.replicate (ds k) true ++ encode (bs k) p
def posTo : Nat → Nat
  | 0 => 0
  | k + 1 => posTo k + ds k + 11
def evAt (k : Nat) : UEv := ⟨posTo ds k + ds k + 10, bs k, 0⟩
theorem lineTo_length (hp : 0 ≤ p ∧ p ≤ 2) (k : Nat) : (lineTo bs ds p k).length = posTo ds k := by
  induction k with
  | zero => rfl
  | succ k ih => rw [lineTo, posTo, List.length_append, List.length_append, ih, List.length_replicate, enc_length _ _ hp]
theorem lineTo_tail (k n : Nat) (h : k < n) : ∃ t, lineTo bs ds p n = lineTo bs ds p k ++ List.replicate (ds k) true ++ encode (bs k) p ++ t := by
  induction n with
  | zero => omega
  | succ n ih =>
    by_cases hk : k = n
    · subst hk; exact ⟨[], by rw [lineTo, List.append_nil]⟩
    · obtain ⟨t, ht⟩ := ih (by omega)
      exact ⟨t ++ (List.replicate (ds n) true ++ encode (bs n) p), by rw [lineTo, ht]; simp [List.append_assoc]⟩
theorem bt_app (a b : List Bool) (k j : Nat) (h : a.length = k) : bt (a ++ b) (k + j) = bt b j := by
  subst h; simp [bt, List.getD, List.getElem?_append_right]
theorem bt_rep (d j : Nat) (b : List Bool) (h : j < d) : bt (List.replicate d true ++ b) j = true := by
  simp [bt, List.getD, List.getElem?_append_left, h]
theorem line_chars (hp : 0 ≤ p ∧ p ≤ 2) (hb : ∀ k, bs k ≤ 255) (n : Nat) : ∀ k, k ≤ n → chars (lineTo bs ds p n ++ [true, true]) p 0 = (List.range k).map (evAt bs ds) ++ chars (lineTo bs ds p n ++ [true, true]) p (posTo ds k) := by
  intro k
  induction k with
  | zero => intro _; rfl
  | succ k ih =>
    intro hk
    rw [ih (by omega), List.range_succ, List.map_append, List.append_assoc]
    congr 1
    obtain ⟨t, ht⟩ := lineTo_tail bs ds p k n (by omega)
    have hL : lineTo bs ds p n ++ [true, true] = lineTo bs ds p k ++ (List.replicate (ds k) true ++ (encode (bs k) p ++ (t ++ [true, true]))) := by rw [ht]; simp [List.append_assoc]
    have hlen := lineTo_length bs ds p hp k
    have he := enc_length (bs k) p hp
    generalize hLL : lineTo bs ds p n ++ [true, true] = L at hL ⊢
    have h1 : ∀ j, j < ds k → bt L (posTo ds k + j) = true := fun j hj => by rw [hL, bt_app _ _ _ _ hlen]; exact bt_rep _ _ _ hj
    have hA : (lineTo bs ds p k ++ List.replicate (ds k) true).length = posTo ds k + ds k := by rw [List.length_append, hlen, List.length_replicate]
    have hL2 : L = (lineTo bs ds p k ++ List.replicate (ds k) true) ++ (encode (bs k) p ++ (t ++ [true, true])) := by rw [hL]; simp [List.append_assoc]
    have h2 : bt L (posTo ds k + ds k) = false := by
      have := bt_app (lineTo bs ds p k ++ List.replicate (ds k) true) (encode (bs k) p ++ (t ++ [true, true])) (posTo ds k + ds k) 0 hA
      rw [Nat.add_zero, ← hL2] at this
      rw [this, encode, if_pos hp]; simp [bt]
    have h3 : (L.drop (posTo ds k + ds k)).take 11 = encode (bs k) p := by
      rw [hL2, ← hA, List.drop_left, ← he, List.take_left]
    have h4 : posTo ds k + ds k + 11 ≤ L.length := by
      rw [hL2, List.length_append, hA, List.length_append, he]; omega
    have h5 : chrAt L p (posTo ds k + ds k) = (bs k, 0, true) := by
      rw [chrAt, h3]; exact dec_enc _ (hb k) _ hp
    rw [chars_skips L p _ _ h1, chr_eq h5 h4 h2]
    rfl
theorem line_all (hp : 0 ≤ p ∧ p ≤ 2) (hb : ∀ k, bs k ≤ 255) (n : Nat) : streamL (lineTo bs ds p n ++ [true, true]) p = (List.range n).map (evAt bs ds) := by
  rw [streamL, if_pos hp, line_chars bs ds p hp hb n n (Nat.le_refl _)]
  have : chars (lineTo bs ds p n ++ [true, true]) p (posTo ds n) = [] := by
    apply chars_short
    rw [List.length_append, lineTo_length bs ds p hp]; simp
  rw [this, List.append_nil]
end

theorem mod_eq (x n r : Int) (hn : 1 ≤ n) (hn2 : n ≤ 1000000000) (h : x % n = r) (w : World) : Calls Try.prog 6 #[.int .i64 x, .int .i64 n] w fun e w' => e = .returned (.int .i64 r) ∧ w = w' := by
  subst h; exact mod_any x n hn hn2 w
def bsOf (xs : List Int) (k : Nat) : Nat := (xs.getD k 0).toNat
def dsOf (is : List Int) (k : Nat) : Nat := if k < is.length then (is.getD k 0).toNat % 9 else 0
theorem dsOf_le (is : List Int) (k : Nat) : dsOf is k ≤ 8 := by unfold dsOf; split <;> omega
theorem posTo_le (ds : Nat → Nat) (h : ∀ k, ds k ≤ 8) (k : Nat) : posTo ds k ≤ 19 * k := by
  induction k with
  | zero => simp [posTo]
  | succ k ih => have := h k; rw [posTo]; omega
theorem bsOf_le {xs : List Int} (hx : ∀ x ∈ xs, 0 ≤ x ∧ x ≤ 255) (k : Nat) : bsOf xs k ≤ 255 := by
  unfold bsOf
  by_cases h : k < xs.length
  · have := hx xs[k] (List.getElem_mem h)
    simp [List.getD, List.getElem?_eq_getElem h]; omega
  · simp [List.getD, List.getElem?_eq_none (show xs.length ≤ k by omega)]
theorem own_form2 {w : World} {base : Nat} {e : TypeId} {size n : Nat} {v : Value} {xs : List Value} (h : w.ownsRow base e size v n xs) :
    ∃ A c, v = .slice A n c ∧ n ≤ c ∧ c ≤ maxLen ∧ Rd w w.heap.size size A n xs := by
  rcases h.2 with ⟨rfl, rfl⟩ | ⟨g, cap, cur, rfl, _, _, hc, hm, _⟩
  · exact ⟨none, 0, rfl, Nat.le_refl _, by simp, Rd.of_own h⟩
  · exact ⟨_, _, rfl, hc, hm, Rd.of_own h⟩
theorem byte_at {w : World} {B n : Nat} {A : Option Addr} {xs : List Int} (h : Rd w B 1 A n (by8 xs)) (hx : ∀ x ∈ xs, 0 ≤ x ∧ x ≤ 255) (k : Nat) (hk : k < n) : ∃ b off, A = some ⟨b, off, none⟩ ∧ bsOf xs k ≤ 255 ∧ w.cell? ⟨b, off + k, none⟩ = some (.int .u8 (bsOf xs k)) := by
  have hl : xs.length = n := by have := h.1; simpa using this
  obtain ⟨b, off, e, _, hc⟩ := h.2 (by omega)
  have hkx : k < xs.length := by omega
  have hb := hx xs[k] (List.getElem_mem hkx)
  have e1 : ((bsOf xs k : Nat) : Int) = xs[k] := by simp [bsOf, List.getD, List.getElem?_eq_getElem hkx]; omega
  exact ⟨b, off, e, by omega, by rw [e1]; exact hc k _ (by simp [List.getElem?_eq_getElem hkx])⟩

end Go.Proofs.Ytoliplochipoeaa

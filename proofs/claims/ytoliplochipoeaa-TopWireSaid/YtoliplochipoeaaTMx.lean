/- The events of a stream, of which the first i have their ticks. -/
import Derived.Test.YtoliplochipoeaaTWa
set_option linter.unusedVariables false
set_option linter.unusedSimpArgs false
namespace Go.Proofs.Ytoliplochipoeaa
open Go.RowKit

def mixRow (bs ds : Nat → Nat) (ch c : Int) (i k : Nat) : List Value := [.int .i64 (if k < i then tickZ ds ch k else ((posTo ds k + ds k + 10 : Nat) : Int)), .int .u8 (bs k), .int .i64 c]
def evMix (bs ds : Nat → Nat) (ch c : Int) (N i : Nat) : List Value := ((List.range N).map (mixRow bs ds ch c i)).flatten
theorem mix_len3 (bs ds : Nat → Nat) (ch c : Int) (N i : Nat) : ∀ r ∈ (List.range N).map (mixRow bs ds ch c i), r.length = 3 := by
  intro r hr; obtain ⟨o, _, rfl⟩ := List.mem_map.1 hr; rfl
theorem evMix_get (bs ds : Nat → Nat) (ch c : Int) (N i k : Nat) (hk : k < N) (j : Nat) (hj : j < 3) : (evMix bs ds ch c N i)[k * 3 + j]? = (mixRow bs ds ch c i k)[j]? := by
  have g := flatten_get (mix_len3 bs ds ch c N i) k j (by simpa using hk) hj
  simpa [evMix] using g
theorem evMix_length (bs ds : Nat → Nat) (ch c : Int) (N i : Nat) : (evMix bs ds ch c N i).length = N * 3 := by
  unfold evMix
  induction N with
  | zero => rfl
  | succ n ih => rw [List.range_succ, List.map_append, List.flatten_append, List.length_append, ih]; simp [mixRow]; omega
theorem evMix_start (bs ds : Nat → Nat) (ch c : Int) (N : Nat) : uevCells ((List.range N).map (evF bs ds c)) = evMix bs ds ch c N 0 := by
  unfold uevCells evMix
  rw [List.map_map]
  congr 1
theorem evMix_end (bs ds : Nat → Nat) (ch c : Int) (N : Nat) : evMix bs ds ch c N N = evCells (evL bs ds ch c N 0) := by
  have h : (List.range N).map (mixRow bs ds ch c N) = (evL bs ds ch c N 0).map fun e => [Value.int .i64 e.at_, .int .u8 e.val, .int .i64 e.fl] := by
    apply List.ext_getElem?
    intro j
    rw [List.getElem?_map, List.getElem?_map]
    by_cases hj : j < N
    · rw [List.getElem?_range hj, evL_get bs ds ch c N 0 j hj]
      simp [mixRow, hj]
    · rw [List.getElem?_eq_none (by simp; omega), List.getElem?_eq_none (by rw [evL_len]; omega)]; rfl
  unfold evMix
  rw [h]
theorem evMix_set (bs ds : Nat → Nat) (ch c : Int) (N i : Nat) (hi : i < N) : (evMix bs ds ch c N i).set (i * 3) (.int .i64 (tickZ ds ch i)) = evMix bs ds ch c N (i + 1) := by
  apply List.ext_getElem?
  intro x
  by_cases hx : x < N * 3
  · obtain ⟨k, j, rfl, hj⟩ : ∃ k j, x = k * 3 + j ∧ j < 3 := ⟨x / 3, x % 3, by omega, by omega⟩
    have hk : k < N := by omega
    rw [evMix_get bs ds ch c N (i + 1) k hk j hj]
    by_cases he : i * 3 = k * 3 + j
    · obtain rfl : k = i := by omega
      obtain rfl : j = 0 := by omega
      rw [he, List.getElem?_set_self (by rw [evMix_length]; omega)]
      simp [mixRow]
    · rw [List.getElem?_set_ne he, evMix_get bs ds ch c N i k hk j hj]
      by_cases hki : k = i
      · subst hki
        have : j = 1 ∨ j = 2 := by omega
        rcases this with rfl | rfl <;> rfl
      · have e : mixRow bs ds ch c i k = mixRow bs ds ch c (i + 1) k := by
          unfold mixRow
          by_cases h : k < i
          · rw [if_pos h, if_pos (by omega)]
          · rw [if_neg h, if_neg (by omega)]
        rw [e]
  · rw [List.getElem?_eq_none (by rw [List.length_set, evMix_length]; omega), List.getElem?_eq_none (by rw [evMix_length]; omega)]
theorem tick_eq (ds : Nat → Nat) (ch : Int) (k : Nat) (at0 : Int) (h : ((posTo ds k + ds k + 10 : Nat) : Int) = at0) : tickZ ds ch k = ((at0 + 1) * ch + 10) / 11 := by
  have e : (posTo ds (k + 1) : Int) = at0 + 1 := by rw [← h, posTo]; omega
  rw [tickZ, e]
end Go.Proofs.Ytoliplochipoeaa

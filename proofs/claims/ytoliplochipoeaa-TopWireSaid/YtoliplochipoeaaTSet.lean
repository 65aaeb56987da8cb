/- Layer 5: contracts of setting.Valid and of the reference's Bauds, All, Valid. -/
import Derived.Test.YtoliplochipoeaaRows
import Derived.Test.YtoliplochipoeaaLib2
import Derived.Deep.RegionHeld3
set_option linter.unusedVariables false
set_option linter.unusedSimpArgs false
namespace Go.Proofs.Ytoliplochipoeaa
open Go.RowKit

abbrev bauds : List Int := [1200, 2400, 4800, 9600, 19200, 38400, 57600, 115200]
def validB (b p : Int) : Bool := decide (b ∈ bauds) && decide (0 ≤ p ∧ p ≤ 2)
abbrev i64s (xs : List Int) : List Value := xs.map (Value.int .i64)

theorem bauds_any (w : World) : Calls Try.prog 51 #[] w fun e w' =>
    ∃ A, e = .returned (.slice A 8 8) ∧ Rd w' w'.heap.size 1 A 8 (i64s bauds) ∧ Below w.heap.size w w' := by
  go_enter Try.func51, Try.ntmps51
  go_wp2
  go_ret
  exact ⟨_, rfl, Rd.lit rfl (by simp), (Below.refl _ _).alloc (Nat.le_refl _) _⟩
theorem Bauds_any (w : World) : Calls Try.prog 20 #[] w fun e w' =>
    ∃ A, e = .returned (.slice A 8 8) ∧ Rd w' w'.heap.size 1 A 8 (i64s bauds) ∧ Below w.heap.size w w' := by
  go_enter Try.func20, Try.ntmps20
  go_wp2
  go_ret
  exact ⟨_, rfl, Rd.lit rfl (by simp), (Below.refl _ _).alloc (Nat.le_refl _) _⟩

/-- The index of v among xs; -1 if it does not occur. -/
def lidx (xs : List Int) (v : Int) : Int := if v ∈ xs then (xs.idxOf v : Nat) else -1
theorem i64s_get (xs : List Int) (k : Nat) (h : k < xs.length) : (i64s xs)[k]? = some (.int .i64 xs[k]) := by simp [i64s, List.getElem?_eq_getElem h]

theorem index_any (xs : List Int) (v : Int) (A : Option Addr) (c B : Nat) (w : World) (hr : Rd w B 1 A xs.length (i64s xs)) (hm : xs.length ≤ maxLen) :
    Calls Try.prog 69 #[.slice A xs.length c, .int .i64 v] w fun e w' => e = .returned (.int .i64 (lidx xs v)) ∧ w = w' := by
  unfold maxLen at hm
  have hc : ∀ k, (hk : k < xs.length) → ∃ b off, A = some ⟨b, off, none⟩ ∧ w.cell? ⟨b, off + k, none⟩ = some (.int .i64 xs[k]) := fun k hk => by
    obtain ⟨b, off, e, _, hc⟩ := hr.2 (by omega)
    exact ⟨b, off, e, hc k _ (i64s_get xs k hk)⟩
  have HC := Lib.hid hc; clear hc hr
  go_enter Try.func69, Try.ntmps69
  go_wp2
  go_loop [8] (fun i => ∃ k : Nat, k ≤ xs.length ∧ i = .int .i64 k ∧ v ∉ xs.take k) (fun i => xs.length - (intOf i).toNat)
  case atStart => exact ⟨0, by omega, rfl, by simp⟩
  case round =>
    obtain ⟨k, hk, rfl, hrel⟩ := hrel
    have HR := Lib.hid hrel; clear hrel
    by_cases hlt : k < xs.length
    · obtain ⟨b, off, rfl, hcell⟩ := HC.out k hlt
      obtain ⟨x, hx⟩ : ∃ x, xs[k] = x := ⟨_, rfl⟩
      rw [hx] at hcell
      by_cases hv : v = x
      · have hi : lidx xs v = k := by
          have hmem : v ∈ xs := by rw [hv, ← hx]; exact List.getElem_mem hlt
          rw [lidx, if_pos hmem]
          have e := List.take_append_drop k xs
          have hd : xs.drop k = v :: xs.drop (k + 1) := by rw [hv, ← hx]; exact List.drop_eq_getElem_cons hlt
          have h2 : xs.idxOf v = k := by
            rw [← e, List.idxOf_append, if_neg HR.out, hd]
            simp; omega
          rw [h2]
        have HI := Lib.hid hi; clear hi
        have hv' : (v == x) = true := by simpa using hv
        clear hv hx
        go_wp2
        go_ret
        exact ⟨by rw [HI.out]; rfl, rfl⟩
      · have hn : v ∉ xs.take (k + 1) := by
          rw [List.take_succ_eq_append_getElem hlt, hx]
          simp only [List.mem_append, List.mem_singleton]
          rintro (h | h)
          · exact HR.out h
          · exact hv h
        have HN := Lib.hid hn; clear hn
        have hv' : (v == x) = false := by simpa using hv
        clear hv hx
        go_wp2
        exact ⟨⟨k + 1, by omega, by go_num, HN.out⟩, by simp [intOf]; omega⟩
    · obtain rfl : k = xs.length := by omega
      have hi : lidx xs v = -1 := by
        rw [lidx, if_neg]; have := HR.out; rwa [List.take_of_length_le (Nat.le_refl _)] at this
      have HI := Lib.hid hi; clear hi
      go_wp2
      go_ret
      exact ⟨by rw [HI.out]; rfl, rfl⟩

theorem contains_any (xs : List Int) (v : Int) (n : Nat) (A : Option Addr) (c B : Nat) (b : Bool) (w : World) (hr : Rd w B 1 A n (i64s xs)) (hm : n ≤ maxLen) (hb : decide (v ∈ xs) = b) :
    Calls Try.prog 50 #[.slice A n c, .int .i64 v] w fun e w' => e = .returned (.bool b) ∧ w = w' := by
  have hl : xs.length = n := by have := hr.1; simpa using this
  subst hl
  have hx := index_any xs v A c B w hr hm
  have hq : decide (0 ≤ lidx xs v) = b := by
    rw [← hb, lidx]
    by_cases h : v ∈ xs
    · rw [if_pos h]; simp [h]
    · rw [if_neg h]; simp [h]
  obtain ⟨q, hqq⟩ : ∃ q, lidx xs v = q := ⟨_, rfl⟩
  rw [hqq] at hx hq
  have HX := Lib.hid hx
  clear hx hqq hr hb
  cases b
  · have hq' : q < 0 := by simpa using hq
    clear hq
    go_enter Try.func50, Try.ntmps50
    go_wp2_with (go_at_call 69; refine HX.out.mono ?_; rintro e w' ⟨rfl, rfl⟩)
    go_ret
    exact ⟨by simp; omega, rfl⟩
  · have hq' : 0 ≤ q := by simpa using hq
    clear hq
    go_enter Try.func50, Try.ntmps50
    go_wp2_with (go_at_call 69; refine HX.out.mono ?_; rintro e w' ⟨rfl, rfl⟩)
    go_ret
    exact ⟨rfl, rfl⟩

end Go.Proofs.Ytoliplochipoeaa

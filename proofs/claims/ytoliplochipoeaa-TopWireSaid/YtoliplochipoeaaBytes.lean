/- Slices of bytes: slices.Clone, the conversion to a string. -/
import Derived.Test.YtoliplochipoeaaRows
import Derived.Test.YtoliplochipoeaaLib2
import Derived.Laws.BytesArg
import Derived.Lib.SliceRun
set_option linter.unusedVariables false
set_option linter.unusedSimpArgs false
namespace Go.Proofs.Ytoliplochipoeaa
open Go.RowKit

abbrev by8 (xs : List Int) : List Value := xs.map (Value.int .u8)
theorem one_ints (k : IntKind) (l : List Int) : ∀ u ∈ l.map (Value.int k), u.oneCell' = true := by
  intro u hu
  obtain ⟨x, _, rfl⟩ := List.mem_map.1 hu
  rfl
theorem byteInfo : (Try.prog.info? 5).map (fun i => (i.zero, i.size, i.bytes)) = some (some (.int .u8 0), 1, 1) := by kernel_rfl
theorem Rd.str {w : World} {B n c : Nat} {A : Option Addr} {xs : List Int} (h : Rd w B 1 A n (by8 xs)) : (convert 22 9 (.slice A n c)).run Try.prog w = .ok (.string (strOfNums xs)) w := by
  have hl : xs.length = n := by have := h.1; simpa using this
  rcases Nat.eq_zero_or_pos n with h0 | h0
  · subst h0
    have hx : xs = [] := List.eq_nil_of_length_eq_zero hl
    subst hx
    rw [run_convert_bytes_string w 22 9 5 A 0 c Try.underlying22 Try.underlying5 Try.underlying9]
    cases A <;> simp [Conv.bytesToString, loadCells, strOfNums] <;> rfl
  · obtain ⟨b, off, rfl, _, hc⟩ := h.2 h0
    exact run_convert_bytes_arg w 22 5 Try.underlying22 Try.underlying5 b off n c xs hl (fun i hi => by
      have := hc i (.int .u8 (xs.getD i 0)) (by simp [List.getD, List.getElem?_eq_getElem (show i < xs.length by omega)])
      exact this) _ Try.underlying9

theorem clone_any (A : Option Addr) (n c B : Nat) (xs : List Int) (w : World) (hr : Rd w B 1 A n (by8 xs)) (hn : n ≤ 100000) :
    Calls Try.prog 35 #[.slice A n c] w fun e w' => ∃ v, e = .returned v ∧ w'.ownsRow w.heap.size 5 1 v n (by8 xs) ∧ Below w.heap.size w w' := by
  rcases A with _ | ad
  · have hl : n = 0 := by
      rcases Nat.eq_zero_or_pos n with h0 | h0
      · exact h0
      · obtain ⟨b, off, h, _⟩ := hr.2 h0; cases h
    subst hl
    have hx : xs = [] := List.eq_nil_of_length_eq_zero (by have := hr.1; simpa using this)
    subst hx
    have he : ∀ w, (binOp .eql 22 (.slice none 0 c) (.slice none 0 0)).run Try.prog w = .ok (.bool true) w := fun w =>
      Lib.run_eql_slice_nil w _ _ _ _ _ _ _ Try.underlying22
    clear hr
    go_enter Try.func35, Try.ntmps35
    go_wp2
    go_ret
    exact ⟨_, rfl, World.ownsRow_nil _ _ _ _, Below.refl _ _⟩
  · have he : ∀ w, (binOp .eql 22 (.slice (some ad) n c) (.slice none 0 0)).run Try.prog w = .ok (.bool false) w := fun w =>
      Lib.run_eql_slice_nil w _ _ _ _ _ _ _ Try.underlying22
    have hr := hr.fits (by decide)
    go_enter Try.func35, Try.ntmps35
    go_wp2_with (at_builtin; refine wpList_appR (.tmp 5) (.tmp 6) 22 w.heap.size 5 _ 1 1 _ 0 [] w.heap.size (some ad) n c _ Try.underlying22 byteInfo rfl (by decide) rfl rfl rfl rfl (World.ownsRow_lit _ _ 0 (Nat.le_refl _) (by simp [maxLen]) rfl) (hr.alloc' _ (Nat.le_refl _)) (one_ints _ _) (by omega) (by omega) (by simp) ?_; intro v2 w2 hown2 hg2 hb2)
    go_ret
    exact ⟨_, rfl, by simpa using hown2, ((Below.refl _ w).alloc (Nat.le_refl _) _).trans hb2⟩
end Go.Proofs.Ytoliplochipoeaa

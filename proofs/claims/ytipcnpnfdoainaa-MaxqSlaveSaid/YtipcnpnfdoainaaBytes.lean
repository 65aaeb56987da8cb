/- Slices of bytes: the conversion to a string (for chapters without slices.Clone). -/
import Derived.Test.YtipcnpnfdoainaaRows
import Derived.Test.YtipcnpnfdoainaaLib2
import Derived.Laws.BytesArg
import Derived.Lib.SliceRun
set_option linter.unusedVariables false
set_option linter.unusedSimpArgs false
namespace Go.Proofs.Ytipcnpnfdoainaa
open Go.RowKit

abbrev by8 (xs : List Int) : List Value := xs.map (Value.int .u8)
theorem one_ints (k : IntKind) (l : List Int) : ∀ u ∈ l.map (Value.int k), u.oneCell' = true := by
  intro u hu
  obtain ⟨x, _, rfl⟩ := List.mem_map.1 hu
  rfl
theorem byteInfo : (Try.prog.info? 5).map (fun i => (i.zero, i.size, i.bytes)) = some (some (.int .u8 0), 1, 1) := by kernel_rfl
theorem Rd.str {w : World} {B n c : Nat} {A : Option Addr} {xs : List Int} (h : Rd w B 1 A n (by8 xs)) : (convert 40 9 (.slice A n c)).run Try.prog w = .ok (.string (strOfNums xs)) w := by
  have hl : xs.length = n := by have := h.1; simpa using this
  rcases Nat.eq_zero_or_pos n with h0 | h0
  · subst h0
    have hx : xs = [] := List.eq_nil_of_length_eq_zero hl
    subst hx
    rw [run_convert_bytes_string w 40 9 5 A 0 c Try.underlying40 Try.underlying5 Try.underlying9]
    cases A <;> simp [Conv.bytesToString, loadCells, strOfNums] <;> rfl
  · obtain ⟨b, off, rfl, _, hc⟩ := h.2 h0
    exact run_convert_bytes_arg w 40 5 Try.underlying40 Try.underlying5 b off n c xs hl (fun i hi => by
      have := hc i (.int .u8 (xs.getD i 0)) (by simp [List.getD, List.getElem?_eq_getElem (show i < xs.length by omega)])
      exact this) _ Try.underlying9

end Go.Proofs.Ytipcnpnfdoainaa

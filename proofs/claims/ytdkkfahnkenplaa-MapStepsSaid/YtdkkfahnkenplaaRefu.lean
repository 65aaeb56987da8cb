/- The reference, Refused (picked out of XServer by pick.py) -/
import Derived.Test.YtdkkfahnkenplaaRows
import Derived.Test.YtdkkfahnkenplaaLib2
set_option linter.unusedVariables false
set_option linter.unusedSimpArgs false
namespace Go.Proofs.Ytdkkfahnkenplaa
open Go.RowKit

theorem refused_any (V F E C L N code : Int) (M : Bool) (dA oA : Option Addr) (dn dc on oc : Nat) (b : Bool) (hb : (V == 2 && E == code) = b) (w : World) :
    Calls Try.prog 33 #[.agg #[.int .i64 V, .int .i64 F, .int .i64 E, .slice dA dn dc, .int .i64 C, .int .i64 L, .bool M, .int .i64 N, .slice oA on oc], .int .i64 code] w fun e w' => e = .returned (.bool b) ∧ Below w.heap.size w w' := by
  have HB := Lib.hid hb; clear hb
  obtain ⟨x, hx⟩ : ∃ x, (V == 2) = x := ⟨_, rfl⟩
  obtain ⟨y, hy⟩ : ∃ y, (E == code) = y := ⟨_, rfl⟩
  have hb := HB.out
  rw [hx, hy] at hb
  subst hb
  clear HB
  cases x
  · go_enter Try.func33, Try.ntmps33
    go_wp2
    go_ret
    exact ⟨rfl, (Below.refl _ _).alloc (Nat.le_refl _) _⟩
  · cases y
    all_goals
      go_enter Try.func33, Try.ntmps33
      go_wp2
      go_ret
      exact ⟨rfl, (Below.refl _ _).alloc (Nat.le_refl _) _⟩
end Go.Proofs.Ytdkkfahnkenplaa

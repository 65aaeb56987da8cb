/- Layer 24: the law MaxqOpen. -/
import Derived.Test.YtipcnpnfdoainaaMqA
import Derived.Test.YtipcnpnfdoainaaMqR
import Derived.Test.YtipcnpnfdoainaaMake
set_option linter.unusedVariables false
set_option linter.unusedSimpArgs false
namespace Go.Proofs.Ytipcnpnfdoainaa
open Go.RowKit

theorem mod_eq (x n r : Int) (hn : 1 ≤ n) (hn2 : n ≤ 1000000000) (h : x % n = r) (w : World) : Calls Try.prog 20 #[.int .i64 x, .int .i64 n] w fun e w' => e = .returned (.int .i64 r) ∧ w = w' := by
  subst h; exact mod_any x n hn hn2 w
theorem mqNext_nil (w : World) : Calls Try.prog 11 #[.pointer none] w fun e w' => e = .returned (.tuple #[qv 0 0 0 0 0, .bool false]) ∧ Below w.heap.size w w' := by
  go_enter Try.func11, Try.ntmps11
  go_wp2
  exact bodyPost_ret (v := .tuple #[qv 0 0 0 0 0, .bool false]) (by simp [results, Try.results11, go_sem]) rfl ⟨rfl, (Below.refl _ _).alloc (Nat.le_refl _) _⟩
theorem mqResult_nil (w : World) : Calls Try.prog 13 #[.pointer none] w fun e w' => e = .returned (.tuple #[.int .i64 0, .int .i64 0]) ∧ w = w' := by
  go_enter Try.func13, Try.ntmps13
  go_wp2
  go_ret2
  exact ⟨rfl, rfl⟩
theorem mqQueries_nil (w : World) : Calls Try.prog 15 #[.pointer none] w fun e w' => e = .returned (.int .i64 0) ∧ w = w' := by
  go_enter Try.func15, Try.ntmps15
  go_wp2
  go_ret
  exact ⟨rfl, rfl⟩
theorem mqFeed_nil (V F E C L N : Int) (M : Bool) (dA oA : Option Addr) (dn dc on oc : Nat) (w : World) :
    Calls Try.prog 16 #[.pointer none, .agg #[.int .i64 V, .int .i64 F, .int .i64 E, .slice dA dn dc, .int .i64 C, .int .i64 L, .bool M, .int .i64 N, .slice oA on oc]] w fun e w' => e = .returned (.int .i64 13) ∧ Below w.heap.size w w' := by
  go_enter Try.func16, Try.ntmps16
  go_wp2
  go_ret
  exact ⟨rfl, (Below.refl _ _).alloc (Nat.le_refl _) _⟩

/-- The search is still wide open before query k. -/
def wide (k : Nat) (lo hi : Int) : Prop := 0 ≤ lo ∧ hi ≤ 2001 ∧ (if k = 0 then lo = 0 ∧ 126 ≤ hi else (125 / 2 ^ (k - 1) : Int) ≤ hi - lo)
theorem open_step (k : Nat) (lo hi most V E lo' hi' st' : Int) (hk : k ≤ 5) (hw : wide k lo hi) (hm : 1 ≤ most) (ho : mqo (mqn lo hi k) most true = (V, E)) (hf : mfeed V E lo hi k = (lo', hi', st')) : st' = 0 ∧ wide (k + 1) lo' hi' := by
  obtain ⟨h1, h2, h3⟩ := hw
  unfold mqo at ho
  obtain rfl | rfl | rfl | rfl | rfl | rfl : k = 0 ∨ k = 1 ∨ k = 2 ∨ k = 3 ∨ k = 4 ∨ k = 5 := by omega
  all_goals
    simp [wide, mqn] at h3 ho ⊢
    split at ho
    all_goals
      simp at ho
      obtain ⟨rfl, rfl⟩ := ho
      simp [mfeed, mqn] at hf
      first
        | omega
        | (obtain ⟨rfl, rfl, hs⟩ := hf
           split at hs <;> omega)
theorem wide_bd {k : Nat} {lo hi : Int} (hk : k ≤ 6) (h : wide k lo hi) : 0 ≤ lo ∧ lo ≤ 3000 ∧ 0 ≤ hi ∧ hi ≤ 3000 := by
  obtain ⟨h1, h2, h3⟩ := h
  obtain rfl | rfl | rfl | rfl | rfl | rfl | rfl : k = 0 ∨ k = 1 ∨ k = 2 ∨ k = 3 ∨ k = 4 ∨ k = 5 ∨ k = 6 := by omega
  all_goals
    simp at h3
    omega
theorem bad_step {V E lo hi q : Int} (h : V = 3 ∨ V = 4 ∨ V = 5 ∨ (V = 2 ∧ 4 ≤ E)) : mfeed V E lo hi q = (lo, hi, 4) := by
  unfold mfeed
  rw [if_neg (by omega), if_neg (by omega), if_neg (by omega)]

end Go.Proofs.Ytipcnpnfdoainaa

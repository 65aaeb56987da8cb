/- Layer 25: contracts of New (of the map and of the reference), Queries (printed by mapk.py). -/
import Derived.Test.YtdkkfahnkenplaaNpG
set_option linter.unusedVariables false
set_option linter.unusedSimpArgs false
namespace Go.Proofs.Ytdkkfahnkenplaa
open Go.RowKit
variable {F : Nat → Prop}

def newOk (tb fs N M : Int) : Bool := decide (1 ≤ tb ∧ tb ≤ 4 ∧ 1 ≤ N ∧ N ≤ 512 ∧ 0 ≤ fs ∧ fs ≤ 65536 - N ∧ 1 ≤ M ∧ M ≤ 2000)
/-- The reference's map in block g: its kinds lie in a row of its own from block 'base' on. -/
def RefAt (w : World) (base g : Nat) (S : Mst) : Prop := ∃ v, w.ownsRow base 3 1 v S.ks.length (S.ks.map (Value.int .i64)) ∧ Box w g #[.int .i64 S.tb, .int .i64 S.fs, .int .i64 S.N, .int .i64 S.M, v, .int .i64 S.mode, .int .i64 S.lo, .int .i64 S.hi, .int .i64 S.q] ∧ some g ≠ v.ownBlock

set_option maxHeartbeats 1000000 in
theorem mnew_no (tb fs N M : Int) (w : World) (h : newOk tb fs N M = false) (hN : -9223372036854775808 ≤ N ∧ N ≤ 9223372036854775807) :
    Calls Try.prog 8 #[.int .i64 tb, .agg #[.int .i64 fs, .int .i64 N], .int .i64 M] w fun e w' => e = .returned (.pointer none) ∧ Below w.heap.size w w' := by
  have hb := (Below.refl w.heap.size w).alloc (Nat.le_refl _) (.cells #[.int .i64 fs, .int .i64 N] 23)
  by_cases h0 : tb < 1
  · clear h
    go_enter Try.func8, Try.ntmps8
    go_wp2
    go_ret
    exact ⟨rfl, hb⟩
  by_cases h1 : 4 < tb
  · clear h
    go_enter Try.func8, Try.ntmps8
    go_wp2
    go_ret
    exact ⟨rfl, hb⟩
  by_cases h2 : N < 1
  · clear h
    go_enter Try.func8, Try.ntmps8
    go_wp2
    go_ret
    exact ⟨rfl, hb⟩
  by_cases h3 : 512 < N
  · clear h
    go_enter Try.func8, Try.ntmps8
    go_wp2
    go_ret
    exact ⟨rfl, hb⟩
  by_cases h4 : fs < 0
  · clear h
    go_enter Try.func8, Try.ntmps8
    go_wp2
    go_ret
    exact ⟨rfl, hb⟩
  by_cases h5 : 65536 - N < fs
  · clear h
    go_enter Try.func8, Try.ntmps8
    go_wp2
    go_ret
    exact ⟨rfl, hb⟩
  by_cases h6 : M < 1
  · clear h
    go_enter Try.func8, Try.ntmps8
    go_wp2
    go_ret
    exact ⟨rfl, hb⟩
  by_cases h7 : 2000 < M
  · clear h
    go_enter Try.func8, Try.ntmps8
    go_wp2
    go_ret
    exact ⟨rfl, hb⟩
  exfalso
  rw [newOk, decide_eq_false_iff_not] at h
  omega
set_option maxHeartbeats 1000000 in
theorem mnew_yes (tb fs : Int) (N M : Nat) (w : World) (h : newOk tb fs N M = true) :
    Calls Try.prog 8 #[.int .i64 tb, .agg #[.int .i64 fs, .int .i64 N], .int .i64 M] w fun e w' => ∃ g, e = .returned (mptr g) ∧ w.heap.size ≤ g ∧ (∀ F, F g → (∀ b, F b → b < w'.heap.size) → MapAt F w' g ⟨tb, fs, N, M, 0, 0, 0, [], 0⟩) ∧ g < w'.heap.size ∧ Below w.heap.size w w' := by
  have hb := (Below.refl w.heap.size w).alloc (Nat.le_refl _) (.cells #[.int .i64 fs, .int .i64 N] 23)
  obtain ⟨h1, h2, h3, h4, h5, h6, h7, h8⟩ := of_decide_eq_true h
  clear h
  go_enter Try.func8, Try.ntmps8
  go_wp2
  go_ret
  refine ⟨w.heap.size + 1, by simp, by omega, ?_, by simp, hb.alloc (by simp) _⟩
  have hB := Box.alloc_ (w := w.alloc (.cells #[.int .i64 fs, .int .i64 N] 23)) (cs := mpCells ⟨tb, fs, N, M, 0, 0, 0, [], 0⟩ none 0 0) (e := 69)
  have e1 : (w.alloc (.cells #[.int .i64 fs, .int .i64 N] 23)).heap.size = w.heap.size + 1 := by simp
  rw [e1] at hB
  exact fun F hg hF => ⟨none, 0, 0, hB, Rd.nil_, hg, hF, fun b off h => by cases h⟩

set_option maxHeartbeats 1000000 in
theorem rnew_no (tb fs N M : Int) (w : World) (h : newOk tb fs N M = false) (hN : -9223372036854775808 ≤ N ∧ N ≤ 9223372036854775807) :
    Calls Try.prog 9 #[.int .i64 tb, .agg #[.int .i64 fs, .int .i64 N], .int .i64 M] w fun e w' => e = .returned (.pointer none) ∧ Below w.heap.size w w' := by
  have hb := (Below.refl w.heap.size w).alloc (Nat.le_refl _) (.cells #[.int .i64 fs, .int .i64 N] 23)
  by_cases h0 : tb < 1
  · clear h
    go_enter Try.func9, Try.ntmps9
    go_wp2
    go_ret
    exact ⟨rfl, hb⟩
  by_cases h1 : 4 < tb
  · clear h
    go_enter Try.func9, Try.ntmps9
    go_wp2
    go_ret
    exact ⟨rfl, hb⟩
  by_cases h2 : N < 1
  · clear h
    go_enter Try.func9, Try.ntmps9
    go_wp2
    go_ret
    exact ⟨rfl, hb⟩
  by_cases h3 : 512 < N
  · clear h
    go_enter Try.func9, Try.ntmps9
    go_wp2
    go_ret
    exact ⟨rfl, hb⟩
  by_cases h4 : fs < 0
  · clear h
    go_enter Try.func9, Try.ntmps9
    go_wp2
    go_ret
    exact ⟨rfl, hb⟩
  by_cases h5 : 65536 - N < fs
  · clear h
    go_enter Try.func9, Try.ntmps9
    go_wp2
    go_ret
    exact ⟨rfl, hb⟩
  by_cases h6 : M < 1
  · clear h
    go_enter Try.func9, Try.ntmps9
    go_wp2
    go_ret
    exact ⟨rfl, hb⟩
  by_cases h7 : 2000 < M
  · clear h
    go_enter Try.func9, Try.ntmps9
    go_wp2
    go_ret
    exact ⟨rfl, hb⟩
  exfalso
  rw [newOk, decide_eq_false_iff_not] at h
  omega
set_option maxHeartbeats 1000000 in
theorem rnew_yes (tb fs : Int) (N M : Nat) (w : World) (h : newOk tb fs N M = true) :
    Calls Try.prog 9 #[.int .i64 tb, .agg #[.int .i64 fs, .int .i64 N], .int .i64 M] w fun e w' => ∃ g, e = .returned (mptr g) ∧ w.heap.size ≤ g ∧ (∀ base, RefAt w' base g ⟨tb, fs, N, M, 0, 0, 0, [], 0⟩) ∧ Below w.heap.size w w' := by
  have hb := (Below.refl w.heap.size w).alloc (Nat.le_refl _) (.cells #[.int .i64 fs, .int .i64 N] 23)
  obtain ⟨h1, h2, h3, h4, h5, h6, h7, h8⟩ := of_decide_eq_true h
  clear h
  go_enter Try.func9, Try.ntmps9
  go_wp2
  go_ret
  refine ⟨w.heap.size + 1, by simp, by omega, ?_, hb.alloc (by simp) _⟩
  intro base
  have hB := Box.alloc_ (w := w.alloc (.cells #[.int .i64 fs, .int .i64 N] 23)) (cs := #[.int .i64 tb, .int .i64 fs, .int .i64 N, .int .i64 M, .slice none 0 0, .int .i64 0, .int .i64 0, .int .i64 0, .int .i64 0]) (e := 39)
  have e1 : (w.alloc (.cells #[.int .i64 fs, .int .i64 N] 23)).heap.size = w.heap.size + 1 := by simp
  rw [e1] at hB
  exact ⟨.slice none 0 0, World.ownsRow_nil _ _ _ _, hB, by simp [Value.ownBlock]⟩

theorem queries_any (S : Mst) (g : Nat) (w : World) (hS : MapAt F w g S) : Calls Try.prog 14 #[mptr g] w fun e w' => e = .returned (.int .i64 S.q) ∧ w = w' := by
  obtain ⟨y0, y1, y2, y3, y4, y5, y6, y8, z, l⟩ := hS.cell
  go_enter Try.func14, Try.ntmps14
  go_wp2
  go_ret
  exact ⟨rfl, rfl⟩
theorem queries_nil (w : World) : Calls Try.prog 14 #[.pointer none] w fun e w' => e = .returned (.int .i64 0) ∧ w = w' := by
  go_enter Try.func14, Try.ntmps14
  go_wp2
  go_ret
  exact ⟨rfl, rfl⟩
end Go.Proofs.Ytdkkfahnkenplaa

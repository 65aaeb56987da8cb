/- Layer 24: the search for the greatest quantity as plain functions; contracts of maxq and of the reference's Search. -/
import Derived.Test.YtipcnpnfdoainaaRows
import Derived.Test.YtipcnpnfdoainaaBox
import Derived.Deep.RegionWith
set_option linter.unusedVariables false
set_option linter.unusedSimpArgs false
namespace Go.Proofs.Ytipcnpnfdoainaa
open Go.RowKit

/-- A request as a value. -/
abbrev qv (f a n c o : Int) : Value := .agg #[.int .i64 f, .int .i64 a, .int .i64 n, .int .i64 c, .int .i64 o]
def mlim (t : Int) : Int := if t = 1 ∨ t = 2 then 2000 else if t = 3 ∨ t = 4 then 125 else 0
def mqn (lo hi q : Int) : Int := if q = 0 then 1 else (lo + hi) / 2
def mfeed (V E lo hi q : Int) : Int × Int × Int :=
  if V = 1 ∨ (V = 2 ∧ E = 2) then (mqn lo hi q, hi, if hi = mqn lo hi q + 1 then 2 else 0)
  else if q = 0 ∧ V = 2 ∧ E = 1 then (lo, hi, 5)
  else if q ≠ 0 ∧ V = 2 ∧ E = 3 then (lo, mqn lo hi q, if mqn lo hi q = lo + 1 then 2 else 0)
  else (lo, hi, 4)

/-- The search's cells: program (table, low, high, state, queries), reference (Table, Low, High, Count, State). -/
abbrev sBox (w : World) (b : Nat) (t lo hi st q : Int) : Prop := Box w b #[.int .i64 t, .int .i64 lo, .int .i64 hi, .int .i64 st, .int .i64 q]

theorem limit_any (t : Int) (w : World) : Calls Try.prog 27 #[.int .i64 t] w fun e w' => e = .returned (.int .i64 (mlim t)) ∧ w = w' := by
  obtain ⟨r, hr⟩ : ∃ r, mlim t = r := ⟨_, rfl⟩
  rw [hr]
  by_cases h1 : t = 1
  · subst h1
    obtain rfl : r = 2000 := by rw [← hr]; decide
    clear hr
    go_enter Try.func27, Try.ntmps27
    go_wp2
    go_ret
    exact ⟨rfl, rfl⟩
  by_cases h2 : t = 2
  · subst h2
    obtain rfl : r = 2000 := by rw [← hr]; decide
    clear hr
    go_enter Try.func27, Try.ntmps27
    go_wp2
    go_ret
    exact ⟨rfl, rfl⟩
  by_cases h3 : t = 3
  · subst h3
    obtain rfl : r = 125 := by rw [← hr]; decide
    clear hr
    go_enter Try.func27, Try.ntmps27
    go_wp2
    go_ret
    exact ⟨rfl, rfl⟩
  by_cases h4 : t = 4
  · subst h4
    obtain rfl : r = 125 := by rw [← hr]; decide
    clear hr
    go_enter Try.func27, Try.ntmps27
    go_wp2
    go_ret
    exact ⟨rfl, rfl⟩
  have k1 : (t == 1) = false := by simpa using h1
  have k2 : (t == 2) = false := by simpa using h2
  have k3 : (t == 3) = false := by simpa using h3
  have k4 : (t == 4) = false := by simpa using h4
  obtain rfl : r = 0 := by rw [← hr, mlim, if_neg (by omega), if_neg (by omega)]
  clear hr h1 h2 h3 h4
  go_enter Try.func27, Try.ntmps27
  go_wp2
  go_ret
  exact ⟨rfl, rfl⟩
theorem limit_eq (t n : Int) (h : mlim t = n) (w : World) : Calls Try.prog 27 #[.int .i64 t] w fun e w' => e = .returned (.int .i64 n) ∧ w = w' := by
  subst h; exact limit_any t w

theorem mlim_pos (t : Int) (h1 : 1 ≤ t) (h4 : t ≤ 4) : 125 ≤ mlim t ∧ mlim t ≤ 2000 := by unfold mlim; split <;> (try split) <;> omega

theorem mqNew_any (t : Int) (w : World) (h1 : 1 ≤ t) (h4 : t ≤ 4) :
    Calls Try.prog 9 #[.int .i64 t] w fun e w' => e = .returned (.pointer (some ⟨w.heap.size, 0, none⟩)) ∧ sBox w' w.heap.size t 0 (mlim t + 1) 0 0 ∧ Below w.heap.size w w' := by
  obtain ⟨n, hn⟩ : ∃ n, mlim t = n := ⟨_, rfl⟩
  have hb := mlim_pos t h1 h4
  rw [hn] at hb ⊢
  have HN := Lib.hid hn; clear hn
  obtain ⟨b1, b2⟩ := hb
  have hz : (n == 0) = false := by simp; omega
  go_enter Try.func9, Try.ntmps9
  go_wp2_with (go_at_call 27; refine (limit_eq t n HN.out _).mono ?_; rintro e w' ⟨rfl, rfl⟩)
  go_ret
  exact ⟨rfl, Box.alloc_, (Below.refl _ _).alloc (Nat.le_refl _) _⟩
theorem mqNew_none (t : Int) (w : World) (h : t < 1 ∨ 4 < t) :
    Calls Try.prog 9 #[.int .i64 t] w fun e w' => e = .returned (.pointer none) ∧ w = w' := by
  have hn : mlim t = 0 := by unfold mlim; rw [if_neg (by omega), if_neg (by omega)]
  have HN := Lib.hid hn; clear hn h
  go_enter Try.func9, Try.ntmps9
  go_wp2_with (go_at_call 27; refine (limit_eq t 0 HN.out _).mono ?_; rintro e w' ⟨rfl, rfl⟩)
  go_ret
  exact ⟨rfl, rfl⟩

theorem quantity_any (b : Nat) (t lo hi st q n : Int) (w : World) (hB : sBox w b t lo hi st q) (h0 : 0 ≤ lo) (h1 : lo ≤ 3000) (h2 : 0 ≤ hi) (h3 : hi ≤ 3000) (hn : mqn lo hi q = n) :
    Calls Try.prog 28 #[.pointer (some ⟨b, 0, none⟩)] w fun e w' => e = .returned (.int .i64 n) ∧ ∃ m, w' = w.drewN m := by
  obtain ⟨q0, z0, l0⟩ := hB
  by_cases hq : q = 0
  · subst hq
    obtain rfl : n = 1 := by rw [← hn, mqn, if_pos rfl]
    clear hn
    go_enter Try.func28, Try.ntmps28
    go_wp2
    go_ret
    exact ⟨rfl, 0, rfl⟩
  · have hq' : (q == 0) = false := by simpa using hq
    obtain rfl : (lo + hi) / 2 = n := by rw [← hn, mqn, if_neg hq]
    clear hn hq
    go_enter Try.func28, Try.ntmps28
    go_wp2
    go_quiet (fail)
    go_wp2
    go_ret
    exact ⟨rfl, _, rfl⟩

theorem mqNext_open (b : Nat) (t lo hi q n : Int) (w : World) (hB : sBox w b t lo hi 0 q) (h0 : 0 ≤ lo) (h1 : lo ≤ 3000) (h2 : 0 ≤ hi) (h3 : hi ≤ 3000) (hn : mqn lo hi q = n) :
    Calls Try.prog 11 #[.pointer (some ⟨b, 0, none⟩)] w fun e w' => e = .returned (.tuple #[qv t 0 n 0 0, .bool true]) ∧ Below w.heap.size w w' := by
  have HQ := Lib.hid (fun (W : World) (hW : sBox W b t lo hi 0 q) => quantity_any b t lo hi 0 q n W hW h0 h1 h2 h3 hn)
  have HB := Lib.hid hB
  obtain ⟨q0, z0, l0⟩ := hB
  have hl : b ≠ w.heap.size := by omega
  clear hn
  go_enter Try.func11, Try.ntmps11
  go_wp2
  go_region_with (go_at_call 28; refine (HQ.out _ (HB.out.alloc' _).drew).mono ?_; rintro e w' ⟨rfl, m, rfl⟩)
  all_goals
    go_wp2
    refine bodyPost_ret (v := .tuple #[qv t 0 n 0 0, .bool true]) (by simp [results, Try.results11, go_sem]) rfl ⟨rfl, ?_⟩
    exact (((((below_drewN ((Below.refl _ w).alloc (Nat.le_refl _) _) _).setCell (Nat.le_refl _) _).setCell (Nat.le_refl _) _).setCell (Nat.le_refl _) _).setCell (Nat.le_refl _) _).setCell (Nat.le_refl _) _
theorem mqNext_done (b : Nat) (t lo hi st q : Int) (w : World) (hB : sBox w b t lo hi st q) (hs : st ≠ 0) :
    Calls Try.prog 11 #[.pointer (some ⟨b, 0, none⟩)] w fun e w' => e = .returned (.tuple #[qv 0 0 0 0 0, .bool false]) ∧ Below w.heap.size w w' := by
  obtain ⟨q0, z0, l0⟩ := hB
  have hs' : (st == 0) = false := by simpa using hs
  have hs2 : (st != 0) = true := by simpa using hs
  clear hs
  go_enter Try.func11, Try.ntmps11
  go_wp2
  exact bodyPost_ret (v := .tuple #[qv 0 0 0 0 0, .bool false]) (by simp [results, Try.results11, go_sem]) rfl ⟨rfl, (Below.refl _ _).alloc (Nat.le_refl _) _⟩
end Go.Proofs.Ytipcnpnfdoainaa

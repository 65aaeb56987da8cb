/- Layer 24: the reference's Search. -/
import Derived.Test.YtipcnpnfdoainaaMqF
set_option linter.unusedVariables false
set_option linter.unusedSimpArgs false
namespace Go.Proofs.Ytipcnpnfdoainaa
open Go.RowKit

/-- The reference's cells: Table, Low, High, Count, State. -/
abbrev rBox (w : World) (b : Nat) (t lo hi st q : Int) : Prop := Box w b #[.int .i64 t, .int .i64 lo, .int .i64 hi, .int .i64 q, .int .i64 st]
def RFed (w : World) (b : Nat) (t lo hi st q : Int) (w' : World) : Prop := rBox w' b t lo hi st q ∧ w.grownBy w' (some b)

theorem rlimit_any (t n : Int) (h : mlim t = n) (h1 : 1 ≤ t) (h4 : t ≤ 4) (w : World) : Calls Try.prog 22 #[.int .i64 t] w fun e w' => e = .returned (.int .i64 n) ∧ w = w' := by
  obtain rfl | rfl | rfl | rfl : t = 1 ∨ t = 2 ∨ t = 3 ∨ t = 4 := by omega
  iterate 2
    · obtain rfl : n = 2000 := by rw [← h]; decide
      clear h
      go_enter Try.func22, Try.ntmps22
      go_wp2
      go_ret
      exact ⟨rfl, rfl⟩
  iterate 2
    · obtain rfl : n = 125 := by rw [← h]; decide
      clear h
      go_enter Try.func22, Try.ntmps22
      go_wp2
      go_ret
      exact ⟨rfl, rfl⟩

theorem rNew_any (t : Int) (w : World) (h1 : 1 ≤ t) (h4 : t ≤ 4) :
    Calls Try.prog 10 #[.int .i64 t] w fun e w' => e = .returned (.pointer (some ⟨w.heap.size, 0, none⟩)) ∧ rBox w' w.heap.size t 0 (mlim t + 1) 0 0 ∧ Below w.heap.size w w' := by
  obtain ⟨n, hn⟩ : ∃ n, mlim t = n := ⟨_, rfl⟩
  have hb := mlim_pos t h1 h4
  rw [hn] at hb ⊢
  have HN := Lib.hid (fun w => rlimit_any t n hn h1 h4 w); clear hn
  obtain ⟨b1, b2⟩ := hb
  go_enter Try.func10, Try.ntmps10
  go_wp2_with fail
  refine (HN.out _).mono ?_
  rintro e w' ⟨rfl, rfl⟩
  go_wp2
  go_ret
  exact ⟨rfl, Box.alloc_, (Below.refl _ _).alloc (Nat.le_refl _) _⟩

theorem rNext_open (b : Nat) (t lo hi q n : Int) (w : World) (hB : rBox w b t lo hi 0 q) (h0 : 0 ≤ lo) (h1 : lo ≤ 3000) (h2 : 0 ≤ hi) (h3 : hi ≤ 3000) (hn : mqn lo hi q = n) :
    Calls Try.prog 12 #[.pointer (some ⟨b, 0, none⟩)] w fun e w' => e = .returned (.tuple #[qv t 0 n 0 0, .bool true]) ∧ Below w.heap.size w w' := by
  obtain ⟨q0, z0, l0⟩ := hB
  have hl : b ≠ w.heap.size := by omega
  by_cases hq : q = 0
  · subst hq
    obtain rfl : n = 1 := by rw [← hn, mqn, if_pos rfl]
    clear hn
    go_enter Try.func12, Try.ntmps12
    go_wp2
    go_quiet (fail)
    go_wp2
    refine bodyPost_ret (v := .tuple #[qv t 0 1 0 0, .bool true]) (by simp [results, Try.results12, go_sem]) rfl ⟨rfl, ?_⟩
    exact (((((below_drewN ((Below.refl _ w).alloc (Nat.le_refl _) _) _).setCell (Nat.le_refl _) _).setCell (Nat.le_refl _) _).setCell (Nat.le_refl _) _).setCell (Nat.le_refl _) _).setCell (Nat.le_refl _) _
  · have hq' : (q == 0) = false := by simpa using hq
    obtain rfl : (lo + hi) / 2 = n := by rw [← hn, mqn, if_neg hq]
    clear hn hq
    go_enter Try.func12, Try.ntmps12
    go_wp2
    go_quiet (fail)
    go_wp2
    refine bodyPost_ret (v := .tuple #[qv t 0 ((lo + hi) / 2) 0 0, .bool true]) (by simp [results, Try.results12, go_sem]) rfl ⟨rfl, ?_⟩
    exact (((((below_drewN ((Below.refl _ w).alloc (Nat.le_refl _) _) _).setCell (Nat.le_refl _) _).setCell (Nat.le_refl _) _).setCell (Nat.le_refl _) _).setCell (Nat.le_refl _) _).setCell (Nat.le_refl _) _
theorem rNext_done (b : Nat) (t lo hi st q : Int) (w : World) (hB : rBox w b t lo hi st q) (hs : st ≠ 0) :
    Calls Try.prog 12 #[.pointer (some ⟨b, 0, none⟩)] w fun e w' => e = .returned (.tuple #[qv 0 0 0 0 0, .bool false]) ∧ Below w.heap.size w w' := by
  obtain ⟨q0, z0, l0⟩ := hB
  have hs' : (st == 0) = false := by simpa using hs
  have hs2 : (st != 0) = true := by simpa using hs
  clear hs
  go_enter Try.func12, Try.ntmps12
  go_wp2
  exact bodyPost_ret (v := .tuple #[qv 0 0 0 0 0, .bool false]) (by simp [results, Try.results12, go_sem]) rfl ⟨rfl, (Below.refl _ _).alloc (Nat.le_refl _) _⟩
theorem rResult_any (b : Nat) (t lo hi st q : Int) (w : World) (hB : rBox w b t lo hi st q) (r : Int) (hr : mres st lo = r) :
    Calls Try.prog 14 #[.pointer (some ⟨b, 0, none⟩)] w fun e w' => e = .returned (.tuple #[.int .i64 st, .int .i64 r]) ∧ ∃ m, w' = w.drewN m := by
  obtain ⟨q0, z0, l0⟩ := hB
  by_cases h : st = 2
  · subst h
    obtain rfl : lo = r := by rw [← hr, mres, if_pos rfl]
    clear hr
    go_enter Try.func14, Try.ntmps14
    go_wp2
    go_quiet (fail)
    go_wp2
    go_ret2
    exact ⟨rfl, _, rfl⟩
  · have h1 : (st == 2) = false := by simpa using h
    have h2 : (st != 2) = true := by simpa using h
    obtain rfl : 0 = r := by rw [← hr, mres, if_neg h]
    clear hr h
    go_enter Try.func14, Try.ntmps14
    go_wp2
    go_ret2
    exact ⟨rfl, 0, rfl⟩

theorem refused_any (V F E C L N code : Int) (M : Bool) (dA oA : Option Addr) (dn dc on oc : Nat) (b : Bool) (hb : (V == 2 && E == code) = b) (w : World) :
    Calls Try.prog 29 #[.agg #[.int .i64 V, .int .i64 F, .int .i64 E, .slice dA dn dc, .int .i64 C, .int .i64 L, .bool M, .int .i64 N, .slice oA on oc], .int .i64 code] w fun e w' => e = .returned (.bool b) ∧ Below w.heap.size w w' := by
  have HB := Lib.hid hb; clear hb
  obtain ⟨x, hx⟩ : ∃ x, (V == 2) = x := ⟨_, rfl⟩
  obtain ⟨y, hy⟩ : ∃ y, (E == code) = y := ⟨_, rfl⟩
  have hb := HB.out
  rw [hx, hy] at hb
  subst hb
  clear HB
  cases x
  · go_enter Try.func29, Try.ntmps29
    go_wp2
    go_ret
    exact ⟨rfl, (Below.refl _ _).alloc (Nat.le_refl _) _⟩
  · cases y
    all_goals
      go_enter Try.func29, Try.ntmps29
      go_wp2
      go_ret
      exact ⟨rfl, (Below.refl _ _).alloc (Nat.le_refl _) _⟩
theorem rFeed_closed (b : Nat) (t lo hi st q : Int) (V F E C L N : Int) (M : Bool) (dA oA : Option Addr) (dn dc on oc : Nat) (w : World) (hB : rBox w b t lo hi st q) (hs : st ≠ 0) :
    Calls Try.prog 17 #[.pointer (some ⟨b, 0, none⟩), .agg #[.int .i64 V, .int .i64 F, .int .i64 E, .slice dA dn dc, .int .i64 C, .int .i64 L, .bool M, .int .i64 N, .slice oA on oc]] w fun e w' =>
      e = .returned (.int .i64 12) ∧ RFed w b t lo hi st q w' := by
  have HA := Lib.hid (fun o => hB.alloc' o)
  have HX := Lib.hid (fun (W : World) (hW : rBox W b t lo hi st q) => rNext_done b t lo hi st q W hW hs)
  have hl : b < w.heap.size := hB.2.2
  have HB := Lib.hid hB
  clear hs hB
  go_enter Try.func17, Try.ntmps17
  go_wp2_with fail
  refine (HX.out _ (HA.out _)).mono ?_
  rintro e w1 ⟨rfl, hb1⟩
  have HA1 := Lib.hid ((HA.out _).below hb1)
  have HG := Lib.hid (one_below (one_alloc (one_refl w b) _) hb1)
  clear hb1
  go_wp2
  go_ret
  exact ⟨rfl, HA1.out.alloc' _, one_alloc HG.out _⟩
end Go.Proofs.Ytipcnpnfdoainaa

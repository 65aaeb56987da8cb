/- Layer 23: contracts of server.Result, of the reference's Server, of the statements' Reply and Objects. -/
import Derived.Test.YtmelkboejkoiiaaBytes
set_option linter.unusedVariables false
set_option linter.unusedSimpArgs false
namespace Go.Proofs.Ytmelkboejkoiiaa
open Go.RowKit

def srv (V F E : Int) (xs : List Int) : Int × List Int := if V = 1 ∧ F = 17 ∧ 0 < xs.length then (2, xs) else if V = 2 ∧ E = 1 then (5, []) else (4, [])

set_option maxRecDepth 100000 in
set_option maxHeartbeats 1000000 in
theorem result_any (V F E C L N : Int) (M : Bool) (dA oA : Option Addr) (dn dc on oc B : Nat) (xs : List Int) (w : World) (hr : Rd w B 1 dA dn (by8 xs)) (hn : dn ≤ 100000) :
    Calls Try.prog 8 #[.agg #[.int .i64 V, .int .i64 F, .int .i64 E, .slice dA dn dc, .int .i64 C, .int .i64 L, .bool M, .int .i64 N, .slice oA on oc]] w fun e w' =>
      ∃ A c, e = .returned (.tuple #[.int .i64 (srv V F E xs).1, .slice A (srv V F E xs).2.length c]) ∧ w'.ownsRow w.heap.size 5 1 (.slice A (srv V F E xs).2.length c) (srv V F E xs).2.length (by8 (srv V F E xs).2) ∧ Below w.heap.size w w' := by
  have hl : xs.length = dn := by have := hr.1; simpa using this
  have h0 := hr.fits (by decide)
  by_cases hc1 : V = 1 ∧ F = 17 ∧ 0 < xs.length
  · have hs : srv V F E xs = (2, xs) := by rw [srv, if_pos hc1]
    have HS := Lib.hid hs; clear hs
    obtain ⟨rfl, rfl, hp⟩ := hc1
    have hp' : 0 < (dn : Int) := by omega
    have HL := Lib.hid hl; clear hl
    clear hp hr
    go_enter Try.func8, Try.ntmps8
    go_wp2_with fail
    refine (clone_any dA dn dc _ xs _ (h0.alloc' _ (Nat.le_refl _)) hn).mono ?_
    rintro e w1 ⟨v, rfl, hown, hb1⟩
    go_wp2
    go_ret2
    obtain ⟨A, c, rfl, _, _⟩ := own_form hown
    rw [HS.out]
    have e1 := HL.out
    subst e1
    exact ⟨A, c, rfl, own_mono hown (by simp), ext_alloc' (Below.refl _ _) (by simpa using hb1)⟩
  · have fin : ∀ st : Int, srv V F E xs = (st, []) → ∀ w' : World, Below w.heap.size w w' → ∃ A c, Ending.returned (.tuple #[.int .i64 st, .slice none 0 0]) = .returned (.tuple #[.int .i64 (srv V F E xs).1, .slice A (srv V F E xs).2.length c]) ∧ w'.ownsRow w.heap.size 5 1 (.slice A (srv V F E xs).2.length c) (srv V F E xs).2.length (by8 (srv V F E xs).2) ∧ Below w.heap.size w w' := by
      intro st hs w' hb
      rw [hs]
      exact ⟨none, 0, rfl, World.ownsRow_nil _ _ _ _, hb⟩
    have FIN := Lib.hid fin; clear fin
    by_cases hc2 : V = 2 ∧ E = 1
    · have hs : srv V F E xs = (5, []) := by rw [srv, if_neg hc1, if_pos hc2]
      have HS := Lib.hid hs; clear hs
      obtain ⟨rfl, rfl⟩ := hc2
      clear hc1 hl hr
      go_enter Try.func8, Try.ntmps8
      go_wp2
      go_ret2
      exact FIN.out 5 HS.out _ ((Below.refl _ _).alloc (Nat.le_refl _) _)
    · have hs : srv V F E xs = (4, []) := by rw [srv, if_neg hc1, if_neg hc2]
      have HS := Lib.hid hs; clear hs
      have hn1 : ((dn : Int) = 0) ∨ 0 < (dn : Int) := by omega
      have hq : V = 1 ∧ F = 17 → dn = 0 := by
        intro h
        rcases Nat.eq_zero_or_pos dn with h0 | h0
        · exact h0
        · exact absurd ⟨h.1, h.2, by omega⟩ hc1
      clear hc1 hl hr h0
      by_cases v1 : V = 1
      · subst v1
        by_cases f1 : F = 17
        · subst f1
          obtain rfl := hq ⟨rfl, rfl⟩
          clear hq hc2 hn1
          go_enter Try.func8, Try.ntmps8
          go_wp2
          go_ret2
          exact FIN.out 4 HS.out _ ((Below.refl _ _).alloc (Nat.le_refl _) _)
        · have f2 : (F == 17) = false := by simpa using f1
          clear hq hc2 f1 hn1
          go_enter Try.func8, Try.ntmps8
          go_wp2
          go_ret2
          exact FIN.out 4 HS.out _ ((Below.refl _ _).alloc (Nat.le_refl _) _)
      · have v2 : (V == 1) = false := by simpa using v1
        clear hq v1 hn1
        by_cases v3 : V = 2
        · subst v3
          have e2 : (E == 1) = false := by simp; intro h; exact hc2 ⟨rfl, h⟩
          clear hc2
          go_enter Try.func8, Try.ntmps8
          go_wp2
          go_ret2
          exact FIN.out 4 HS.out _ ((Below.refl _ _).alloc (Nat.le_refl _) _)
        · have v4 : (V == 2) = false := by simpa using v3
          clear hc2 v3
          go_enter Try.func8, Try.ntmps8
          go_wp2
          go_ret2
          exact FIN.out 4 HS.out _ ((Below.refl _ _).alloc (Nat.le_refl _) _)

theorem refused_any (V F E C L N code : Int) (M : Bool) (dA oA : Option Addr) (dn dc on oc : Nat) (b : Bool) (hb : (V == 2 && E == code) = b) (w : World) :
    Calls Try.prog 19 #[.agg #[.int .i64 V, .int .i64 F, .int .i64 E, .slice dA dn dc, .int .i64 C, .int .i64 L, .bool M, .int .i64 N, .slice oA on oc], .int .i64 code] w fun e w' => e = .returned (.bool b) ∧ Below w.heap.size w w' := by
  have HB := Lib.hid hb; clear hb
  obtain ⟨x, hx⟩ : ∃ x, (V == 2) = x := ⟨_, rfl⟩
  obtain ⟨y, hy⟩ : ∃ y, (E == code) = y := ⟨_, rfl⟩
  have hb := HB.out
  rw [hx, hy] at hb
  subst hb
  clear HB
  cases x
  · go_enter Try.func19, Try.ntmps19
    go_wp2
    go_ret
    exact ⟨rfl, (Below.refl _ _).alloc (Nat.le_refl _) _⟩
  · cases y
    all_goals
      go_enter Try.func19, Try.ntmps19
      go_wp2
      go_ret
      exact ⟨rfl, (Below.refl _ _).alloc (Nat.le_refl _) _⟩

set_option maxRecDepth 100000 in
set_option maxHeartbeats 1000000 in
theorem refServer_any (V F E C L N : Int) (M : Bool) (dA oA : Option Addr) (dn dc on oc B : Nat) (xs : List Int) (w : World) (hr : Rd w B 1 dA dn (by8 xs)) (hn : dn ≤ 100000) :
    Calls Try.prog 9 #[.agg #[.int .i64 V, .int .i64 F, .int .i64 E, .slice dA dn dc, .int .i64 C, .int .i64 L, .bool M, .int .i64 N, .slice oA on oc]] w fun e w' =>
      ∃ A c, e = .returned (.tuple #[.int .i64 (srv V F E xs).1, .slice A (srv V F E xs).2.length c]) ∧ w'.ownsRow w.heap.size 5 1 (.slice A (srv V F E xs).2.length c) (srv V F E xs).2.length (by8 (srv V F E xs).2) ∧ Below w.heap.size w w' := by
  have hl : xs.length = dn := by have := hr.1; simpa using this
  have h0 := hr.fits (by decide)
  by_cases hc1 : V = 1 ∧ F = 17 ∧ 0 < xs.length
  · have hs : srv V F E xs = (2, xs) := by rw [srv, if_pos hc1]
    have HS := Lib.hid hs; clear hs
    obtain ⟨rfl, rfl, hp⟩ := hc1
    have hp' : 0 < (dn : Int) := by omega
    have HL := Lib.hid hl; clear hl
    have h1 := h0.alloc' (.cells #[.int .i64 1, .int .i64 17, .int .i64 E, .slice dA dn dc, .int .i64 C, .int .i64 L, .bool M, .int .i64 N, .slice oA on oc] 27) (Nat.le_refl _)
    clear hp hr
    go_enter Try.func9, Try.ntmps9
    go_wp2_with (at_builtin; refine wpList_appR (.const (.slice none 0 0)) (.tmp 22) 22 (w.heap.size + 1) 5 _ 1 1 _ 0 [] w.heap.size dA dn dc _ Try.underlying22 byteInfo rfl (by decide) rfl rfl rfl rfl (World.ownsRow_nil _ _ _ _) h1 (one_ints _ _) (by omega) (by omega) (by simp) ?_; intro v1 w1 hown hg1 hb1)
    go_ret2
    simp only [Nat.zero_add, List.nil_append] at hown
    obtain ⟨A, c, rfl, _, _⟩ := own_form hown
    rw [HS.out]
    have e1 := HL.out
    subst e1
    exact ⟨A, c, rfl, own_mono hown (by omega), ext_alloc' (Below.refl _ _) (by simpa using hb1)⟩
  · have fin : ∀ st : Int, srv V F E xs = (st, []) → ∀ w' : World, Below w.heap.size w w' → ∃ A c, Ending.returned (.tuple #[.int .i64 st, .slice none 0 0]) = .returned (.tuple #[.int .i64 (srv V F E xs).1, .slice A (srv V F E xs).2.length c]) ∧ w'.ownsRow w.heap.size 5 1 (.slice A (srv V F E xs).2.length c) (srv V F E xs).2.length (by8 (srv V F E xs).2) ∧ Below w.heap.size w w' := by
      intro st hs w' hb
      rw [hs]
      exact ⟨none, 0, rfl, World.ownsRow_nil _ _ _ _, hb⟩
    have FIN := Lib.hid fin; clear fin
    obtain ⟨r, hr'⟩ : ∃ r, (V == 2 && E == 1) = r := ⟨_, rfl⟩
    have hs : srv V F E xs = (if r then 5 else 4, []) := by
      rw [srv, if_neg hc1]
      subst hr'
      by_cases h : V = 2 ∧ E = 1
      · rw [if_pos h]; simp [h]
      · rw [if_neg h, if_neg]; simpa using h
    have HR := Lib.hid (fun w => refused_any V F E C L N 1 M dA oA dn dc on oc r hr' w)
    have HS := Lib.hid hs; clear hs hr'
    have hq : V = 1 ∧ F = 17 → dn = 0 := by
      intro h
      rcases Nat.eq_zero_or_pos dn with h0 | h0
      · exact h0
      · exact absurd ⟨h.1, h.2, by omega⟩ hc1
    clear hc1 hl hr h0
    by_cases v1 : V = 1
    · subst v1
      by_cases f1 : F = 17
      · subst f1
        obtain rfl := hq ⟨rfl, rfl⟩
        clear hq
        cases r
        all_goals
          go_enter Try.func9, Try.ntmps9
          go_wp2_with fail
          refine (HR.out _).mono ?_
          rintro e w1 ⟨rfl, hb1⟩
          go_wp2
          go_ret2
          exact FIN.out _ HS.out _ (ext_alloc' (Below.refl _ _) (by simpa using hb1))
      · have f2 : (F == 17) = false := by simpa using f1
        clear hq f1
        cases r
        all_goals
          go_enter Try.func9, Try.ntmps9
          go_wp2_with fail
          refine (HR.out _).mono ?_
          rintro e w1 ⟨rfl, hb1⟩
          go_wp2
          go_ret2
          exact FIN.out _ HS.out _ (ext_alloc' (Below.refl _ _) (by simpa using hb1))
    · have v2 : (V == 1) = false := by simpa using v1
      clear hq v1
      cases r
      all_goals
        go_enter Try.func9, Try.ntmps9
        go_wp2_with fail
        refine (HR.out _).mono ?_
        rintro e w1 ⟨rfl, hb1⟩
        go_wp2
        go_ret2
        exact FIN.out _ HS.out _ (ext_alloc' (Below.refl _ _) (by simpa using hb1))

theorem request_any (w : World) : Calls Try.prog 14 #[] w fun e w' => e = .returned (.agg #[.int .i64 17, .int .i64 0, .int .i64 0, .int .i64 0, .int .i64 0]) ∧ Below w.heap.size w w' := by
  go_enter Try.func14, Try.ntmps14
  go_wp2
  exact bodyPost_ret (v := .agg #[.int .i64 17, .int .i64 0, .int .i64 0, .int .i64 0, .int .i64 0]) (by simp [results, Try.results14, go_sem]) rfl ⟨rfl, (Below.refl _ _).alloc (Nat.le_refl _) _⟩

end Go.Proofs.Ytmelkboejkoiiaa

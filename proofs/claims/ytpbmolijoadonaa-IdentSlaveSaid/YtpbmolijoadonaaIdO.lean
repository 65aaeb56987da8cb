/- Layer 22: contracts of ordered and good. -/
import Derived.Test.YtpbmolijoadonaaIdA
import Derived.Deep.QuietTactic
import Derived.BigQuiet
set_option linter.unusedVariables false
set_option linter.unusedSimpArgs false
namespace Go.Proofs.Ytpbmolijoadonaa
open Go.RowKit

abbrev rpC (F E C L N : Int) (M : Bool) (dA oA : Option Addr) (dn dc on oc : Nat) : Array Value := #[.int .i64 F, .int .i64 E, .slice dA dn dc, .int .i64 C, .int .i64 L, .bool M, .int .i64 N, .slice oA on oc]
theorem asc_stop {p : Int} {l : List Ob} {k : Nat} (hk : k < l.length) (h : ¬ lastOf p (ids (l.take k)) < l[k].id) : asc p (ids l) = false := by
  cases hc : asc p (ids l)
  · rfl
  · have h1 := asc_take p (ids l) (k + 1) hc
    rw [show (ids l).take (k + 1) = ids (l.take (k + 1)) from (List.map_take ..).symm, ids_snoc l k hk, asc_snoc] at h1
    simp only [Bool.and_eq_true, decide_eq_true_eq] at h1
    exact absurd h1.2 h
theorem asc_go {p : Int} {l : List Ob} {k : Nat} (hk : k < l.length) (h0 : asc p (ids (l.take k)) = true) (h : lastOf p (ids (l.take k)) < l[k].id) : asc p (ids (l.take (k + 1))) = true ∧ lastOf p (ids (l.take (k + 1))) = l[k].id := by
  rw [ids_snoc l k hk, asc_snoc, lastOf_snoc, h0]
  exact ⟨by simpa using h, rfl⟩

set_option maxRecDepth 100000 in
set_option maxHeartbeats 2000000 in
theorem ordered_any (F E C L N ask : Int) (M : Bool) (dA oA : Option Addr) (dn dc n oc B : Nat) (l : List Ob) (w : World) (hr : Rd w B 2 oA n (obCells l)) (hm : n ≤ 1000000000) (ha : 0 ≤ ask ∧ ask ≤ 9223372036854775807) (b : Bool) (hb : ordB M N (ids l) ask = b) :
    Calls Try.prog 24 #[.agg (rpC F E C L N M dA oA dn dc n oc), .int .i64 ask] w fun e w' => e = .returned (.bool b) ∧ Below w.heap.size w w' := by
  obtain ⟨ha1, ha2⟩ := ha
  have hl := hr.olen
  have HR := Lib.hid (hr.fits (by decide))
  have HL := Lib.hid hl
  have HB := Lib.hid hb
  have HB0 := Lib.hid (Box.alloc_ (w := w) (cs := rpC F E C L N M dA oA dn dc n oc) (e := 42))
  have hb0 : Below w.heap.size w (w.alloc (.cells (rpC F E C L N M dA oA dn dc n oc) 42)) := (Below.refl _ _).alloc (Nat.le_refl _) _
  clear hr hl hb
  go_enter Try.func24, Try.ntmps24
  go_wp2_with fail
  obtain ⟨W0, hW0⟩ : ∃ W0, w.alloc (.cells (rpC F E C L N M dA oA dn dc n oc) 42) = W0 := ⟨_, rfl⟩
  rw [hW0] at HB0 hb0 ⊢
  clear hW0
  go_loopw [5, 7, 13] (fun la x i wr => ∃ k : Nat, k ≤ n ∧ i = .int .i64 k ∧ la = .int .i64 (lastOf (ask - 1) (ids (l.take k))) ∧ asc (ask - 1) (ids (l.take k)) = true ∧ Below W0.heap.size W0 wr) (fun _ _ i _ => n - (intOf i).toNat)
  case atStart => exact ⟨0, by omega, rfl, rfl, rfl, Below.refl _ _⟩
  case round =>
    obtain ⟨k, hk, rfl, rfl, hasc, hbr⟩ := hrel
    have hbw := ext_trans hb0 hbr
    have HBr := Lib.hid (HB0.out.below hbr)
    have HA := Lib.hid hasc
    clear hasc
    obtain ⟨la, hla⟩ : ∃ la, lastOf (ask - 1) (ids (l.take k)) = la := ⟨_, rfl⟩
    rw [hla]
    have HLA := Lib.hid hla
    clear hla
    by_cases hlt : k < n
    · obtain ⟨b0, off, rfl, hbl, hk', c0, c1⟩ := ob_at (HR.out.below hbw (Nat.le_refl _)) k hlt
      obtain ⟨x, hx⟩ : ∃ x, l[k].id = x := ⟨_, rfl⟩
      rw [hx] at c0
      by_cases hd : la < x
      · have hnx := asc_go hk' HA.out (by rw [HLA.out, hx]; exact hd)
        rw [hx] at hnx
        have HN := Lib.hid hnx
        have hd2 : decide (x ≤ la) = false := by simp; omega
        clear hnx hx
        go_wp2_with fail
        go_roundw
        case rel => exact ⟨k + 1, by omega, by go_num, by rw [HN.out.2], HN.out.1, hbr.alloc hbr.size _⟩
        case measure => simp [intOf]; omega
      · have hf := asc_stop hk' (by rw [HLA.out, hx]; exact hd)
        have hfb : b = false := by rw [← HB.out, ordB, hf]; rfl
        subst hfb
        have hd2 : decide (x ≤ la) = true := by simp; omega
        clear hf hx
        go_wp2
        go_ret
        exact ⟨rfl, hbw.alloc hbw.size _⟩
    · obtain rfl : k = n := by omega
      have hbv : b = (decide (0 < k) && (!M || decide (la < N))) := by
        have h1 := HA.out
        have h2 := HLA.out
        rw [List.take_of_length_le (by rw [HL.out]; exact Nat.le_refl _)] at h1 h2
        have h3 : (ids l).isEmpty = !decide (0 < k) := by
          rw [← HL.out]
          cases l <;> simp [ids]
        rw [← HB.out, ordB, h1, h2, h3]
        simp
      have HBV := Lib.hid hbv
      obtain ⟨q, z, lz⟩ := HBr.out
      clear hbv
      by_cases hk0 : 0 < k
      · have d0 : decide ((0 : Int) < (k : Int)) = true := by simp; omega
        have d1 : decide (0 < k) = true := by simpa using hk0
        have hv := HBV.out
        rw [d1] at hv
        cases M
        · obtain rfl : b = true := by rw [hv]; rfl
          clear hv hk0
          go_wp2
          go_ret
          exact ⟨rfl, hbw⟩
        · obtain ⟨y, hy⟩ : ∃ y, decide (la < N) = y := ⟨_, rfl⟩
          rw [hy] at hv
          obtain rfl : b = y := by rw [hv]; rfl
          clear hv hk0
          go_wp2
          go_ret
          exact ⟨by first | rfl | (rw [hy]), hbw⟩
      · have d1 : decide (0 < k) = false := by simpa using hk0
        have hv := HBV.out
        rw [d1] at hv
        obtain rfl : b = false := by rw [hv]; rfl
        obtain rfl : k = 0 := by omega
        clear hv hk0
        go_wp2
        go_ret
        exact ⟨rfl, hbw⟩
end Go.Proofs.Ytpbmolijoadonaa

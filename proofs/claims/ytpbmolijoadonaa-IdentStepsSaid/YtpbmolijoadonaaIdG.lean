/- Layer 22: contract of the reference's good. -/
import Derived.Test.YtpbmolijoadonaaIdO
import Derived.Deep.DeepCutAuto
set_option linter.unusedVariables false
set_option linter.unusedSimpArgs false
namespace Go.Proofs.Ytpbmolijoadonaa
open Go.RowKit

theorem lastOf_take {p : Int} {l : List Ob} {k : Nat} (hk : k + 1 ≤ l.length) : lastOf p (ids (l.take (k + 1))) = l[k].id := by
  rw [ids_snoc l k hk, lastOf_snoc]
theorem lastOf_take2 {p : Int} {l : List Ob} {k : Nat} (h0 : 0 < k) (hk : k - 1 < l.length) : lastOf p (ids (l.take k)) = l[k - 1].id := by
  obtain ⟨j, rfl⟩ : ∃ j, k = j + 1 := ⟨k - 1, by omega⟩
  exact lastOf_take (k := j) (by omega)
theorem drewN_add (w : World) (a b : Nat) : (w.drewN a).drewN b = w.drewN (a + b) := by simp [World.drewN, Nat.add_assoc]
set_option maxRecDepth 100000 in
set_option maxHeartbeats 4000000 in
theorem good_any (V F E C L N ask : Int) (M : Bool) (dA oA : Option Addr) (dn dc n oc B : Nat) (l : List Ob) (w : World) (hr : Rd w B 2 oA n (obCells l)) (hm : n ≤ 1000000000) (ha : 0 ≤ ask ∧ ask ≤ 9223372036854775807) (b : Bool) (hb : (decide (V = 1 ∧ F = 43) && ordB M N (ids l) ask) = b) :
    Calls Try.prog 26 #[.agg #[.int .i64 V, .int .i64 F, .int .i64 E, .slice dA dn dc, .int .i64 C, .int .i64 L, .bool M, .int .i64 N, .slice oA n oc], .int .i64 ask] w fun e w' => e = .returned (.bool b) ∧ Below w.heap.size w w' := by
  obtain ⟨ha1, ha2⟩ := ha
  have hl := hr.olen
  have HR := Lib.hid (hr.fits (by decide))
  have HL := Lib.hid hl
  have hb2 : Below w.heap.size w ((w.alloc (.cells #[.int .i64 V, .int .i64 F, .int .i64 E, .slice dA dn dc, .int .i64 C, .int .i64 L, .bool M, .int .i64 N, .slice oA n oc] 44)).alloc (.cells (rpC F E C L N M dA oA dn dc n oc) 42)) := ((Below.refl _ _).alloc (Nat.le_refl _) _).alloc (by simp) _
  have HB2 := Lib.hid (Box.alloc_ (w := w.alloc (.cells #[.int .i64 V, .int .i64 F, .int .i64 E, .slice dA dn dc, .int .i64 C, .int .i64 L, .bool M, .int .i64 N, .slice oA n oc] 44)) (cs := rpC F E C L N M dA oA dn dc n oc) (e := 42))
  by_cases hV : V = 1
  · by_cases hF : F = 43
    · by_cases hn : n = 0
      · subst hn
        have hl0 : l = [] := List.eq_nil_of_length_eq_zero hl
        obtain rfl : b = false := by rw [← hb, hl0]; simp [ordB, ids]
        have d1 : (V != 1) = false := by simpa using hV
        have d2 : (F != 43) = false := by simpa using hF
        clear hr hl hb hl0 hV hF
        go_enter Try.func26, Try.ntmps26
        go_wp2
        go_ret
        exact ⟨rfl, hb2⟩
      · have hb' : ordB M N (ids l) ask = b := by rw [← hb]; simp [hV, hF]
        have HB := Lib.hid hb'
        have d1 : (V != 1) = false := by simpa using hV
        have d2 : (F != 43) = false := by simpa using hF
        have d3 : ((n : Int) == 0) = false := by simp; omega
        have hn0 : 0 < n := by omega
        clear hr hl hb hb' hV hF hn
        go_enter Try.func26, Try.ntmps26
        go_wp2_with fail
        obtain ⟨g, hg⟩ : ∃ g, w.heap.size + 1 = g := ⟨_, rfl⟩
        obtain ⟨W0, hW0⟩ : ∃ W0, (w.alloc (.cells #[.int .i64 V, .int .i64 F, .int .i64 E, .slice dA dn dc, .int .i64 C, .int .i64 L, .bool M, .int .i64 N, .slice oA n oc] 44)).alloc (.cells (rpC F E C L N M dA oA dn dc n oc) 42) = W0 := ⟨_, rfl⟩
        have HB2' : Box W0 g (rpC F E C L N M dA oA dn dc n oc) := by rw [← hW0, ← hg]; simpa using HB2.out
        have HB3 := Lib.hid HB2'
        rw [hW0] at hb2 ⊢
        rw [hg]
        clear hW0 hg HB2 HB2'
        go_loopw [6] (fun i wr => ∃ k : Nat, k ≤ n ∧ i = .int .i64 k ∧ asc (ask - 1) (ids (l.take k)) = true ∧ ∃ z, wr = W0.drewN z) (fun i _ => n - (intOf i).toNat)
        case atStart => exact ⟨0, by omega, rfl, rfl, 0, rfl⟩
        case round =>
          obtain ⟨k, hk, rfl, hasc, z, rfl⟩ := hrel
          have HA := Lib.hid hasc
          clear hasc
          obtain ⟨q, zz, lz⟩ := HB3.out
          by_cases hlt : k < n
          · obtain ⟨b0, off, rfl, hbl, hk', c0, c1⟩ := ob_at (HR.out.below hb2 (Nat.le_refl _)) k hlt
            obtain ⟨x, hx⟩ : ∃ x, l[k].id = x := ⟨_, rfl⟩
            rw [hx] at c0
            obtain ⟨la, hla⟩ : ∃ la, lastOf (ask - 1) (ids (l.take k)) = la := ⟨_, rfl⟩
            have hle := asc_le _ _ HA.out
            rw [hla] at hle
            obtain ⟨bb, hbb⟩ : ∃ bb, decide (¬ la < x) = bb := ⟨_, rfl⟩
            go_upto_region 7 with fail
            go_cut [57] (fun v y => v = .bool bb ∧ ∃ z2, y = W0.drewN z2)
            case first =>
              by_cases hk0 : k = 0
              · subst hk0
                have e1 : la = ask - 1 := by rw [← hla]; rfl
                simp only [Nat.zero_mul, Nat.add_zero, Nat.zero_add] at c0
                by_cases hd : x < ask
                · obtain rfl : bb = true := by rw [← hbb]; simp; omega
                  have d4 : decide (x < ask) = true := by simpa using hd
                  clear hla hbb hx c1 hle e1 hd
                  go_quiet (fail)
                  go_wp2_with fail
                  go_meet
                  case rel => refine ⟨rfl, ?_⟩; first | exact ⟨_, drewN_add _ _ _⟩ | exact ⟨_, rfl⟩
                · obtain rfl : bb = false := by rw [← hbb]; simp; omega
                  have d4 : decide (x < ask) = false := by simpa using hd
                  clear hla hbb hx c1 hle e1 hd
                  go_quiet (fail)
                  go_wp2_with fail
                  go_meet
                  case rel => refine ⟨rfl, ?_⟩; first | exact ⟨_, drewN_add _ _ _⟩ | exact ⟨_, rfl⟩
              · obtain ⟨b', o', hA', _, hk1, x0, x1⟩ := ob_at (HR.out.below hb2 (Nat.le_refl _)) (k - 1) (by omega)
                injection hA' with hA'
                injection hA' with e1 e2
                subst e1 e2
                have e3 := lastOf_take2 (p := ask - 1) (l := l) (k := k) (by omega) hk1
                rw [hla] at e3
                rw [← e3] at x0
                have f3 : IntKind.i64.wrap ((k : Int) - 1) = ((k - 1 : Nat) : Int) := by rw [IntWalk.i64_in _ ⟨by omega, by omega⟩]; omega
                have hk00 : decide (0 < k) = true := by simp; omega
                have hk01 : decide ((0 : Int) < (k : Int)) = true := by simp; omega
                have hkm : k - 1 < n := by omega
                clear e3 hla hx c1 x1 hk1
                by_cases hd : x < ask
                · obtain rfl : bb = true := by rw [← hbb]; simp; omega
                  have d4 : decide (x < ask) = true := by simpa using hd
                  clear hbb hle hd
                  go_quiet (fail)
                  go_wp2_with fail
                  go_meet
                  case rel => refine ⟨rfl, ?_⟩; first | exact ⟨_, drewN_add _ _ _⟩ | exact ⟨_, rfl⟩
                · have d4 : decide (x < ask) = false := by simpa using hd
                  by_cases hd2 : x ≤ la
                  · obtain rfl : bb = true := by rw [← hbb]; simp; omega
                    have d5 : decide (x ≤ la) = true := by simpa using hd2
                    clear hbb hle hd hd2
                    go_quiet (fail)
                    go_wp2_with fail
                    go_meet
                    case rel => refine ⟨rfl, ?_⟩; first | exact ⟨_, drewN_add _ _ _⟩ | exact ⟨_, rfl⟩
                  · obtain rfl : bb = false := by rw [← hbb]; simp; omega
                    have d5 : decide (x ≤ la) = false := by simpa using hd2
                    clear hbb hle hd hd2
                    go_quiet (fail)
                    go_wp2_with fail
                    go_meet
                    case rel => refine ⟨rfl, ?_⟩; first | exact ⟨_, drewN_add _ _ _⟩ | exact ⟨_, rfl⟩
            case rest =>
              obtain ⟨rfl, z2, rfl⟩ := hcut
              cases bb
              · have hd : la < x := by simpa using hbb
                have hnx := asc_go hk' HA.out (by rw [hla, hx]; exact hd)
                have HN := Lib.hid hnx.1
                clear hbb hnx hx hla hle hd
                go_wp2_with fail
                go_roundw
                case rel => exact ⟨k + 1, by omega, by go_num, HN.out, z2, rfl⟩
                case measure => simp [intOf]; omega
              · have hd : ¬ la < x := by simpa using hbb
                have hf := asc_stop hk' (by rw [hla, hx]; exact hd)
                have hfb : b = false := by rw [← HB.out, ordB, hf]; rfl
                subst hfb
                clear hbb hf hx hla hle hd
                go_wp2
                go_ret
                exact ⟨rfl, below_drewN hb2 z2⟩
          · obtain rfl : k = n := by omega
            obtain ⟨b0, off, rfl, hbl, hk', c0, c1⟩ := ob_at (HR.out.below hb2 (Nat.le_refl _)) (k - 1) (by omega)
            obtain ⟨la, hla⟩ : ∃ la, lastOf (ask - 1) (ids l) = la := ⟨_, rfl⟩
            have e3 := lastOf_take2 (p := ask - 1) (l := l) (k := k) (by omega) hk'
            rw [List.take_of_length_le (by rw [HL.out]; exact Nat.le_refl _), hla] at e3
            rw [← e3] at c0
            have hbv : b = (!M || decide (la < N)) := by
              have h1 := HA.out
              rw [List.take_of_length_le (by rw [HL.out]; exact Nat.le_refl _)] at h1
              have h3 : (ids l).isEmpty = false := by
                cases l with
                | nil => simp at hk'
                | cons a t => rfl
              rw [← HB.out, ordB, h1, hla, h3]
              simp
            have HBV := Lib.hid hbv
            have f3 : IntKind.i64.wrap ((k : Int) - 1) = ((k - 1 : Nat) : Int) := by rw [IntWalk.i64_in _ ⟨by omega, by omega⟩]; omega
            have hkm : k - 1 < k := by omega
            clear hbv e3 hla c1 hlt hk'
            cases M
            · obtain rfl : b = true := HBV.out
              clear HBV
              go_wp2_with fail
              try go_quiet (fail)
              go_wp2
              go_ret
              exact ⟨rfl, by first | exact below_drewN (below_drewN hb2 _) _ | exact below_drewN hb2 _⟩
            · obtain rfl : b = decide (la < N) := HBV.out
              clear HBV
              go_wp2_with fail
              try go_quiet (fail)
              go_wp2
              go_ret
              exact ⟨rfl, by first | exact below_drewN (below_drewN hb2 _) _ | exact below_drewN hb2 _⟩
    · have d1 : (V != 1) = false := by simpa using hV
      have d2 : (F != 43) = true := by simpa using hF
      obtain rfl : b = false := by rw [← hb]; simp [hF]
      clear hr hl hb hV hF
      go_enter Try.func26, Try.ntmps26
      go_wp2
      go_ret
      exact ⟨rfl, hb2⟩
  · have d1 : (V != 1) = true := by simpa using hV
    obtain rfl : b = false := by rw [← hb]; simp [hV]
    clear hr hl hb hV
    go_enter Try.func26, Try.ntmps26
    go_wp2
    go_ret
    exact ⟨rfl, hb2⟩
end Go.Proofs.Ytpbmolijoadonaa

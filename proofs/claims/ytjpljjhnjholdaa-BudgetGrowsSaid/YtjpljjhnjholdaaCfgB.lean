/- Layer 17: contracts of config.Check and of the reference's Check and Windows (printed by cfg.py). -/
import Derived.Test.YtjpljjhnjholdaaLstL
set_option linter.unusedVariables false
set_option linter.unusedSimpArgs false
namespace Go.Proofs.Ytjpljjhnjholdaa
open Go.RowKit

structure Cf where
  ss : List St
  fi : Int
  la : Int
  re : Int
  ti : Int
  de : Int
  w0f : Int
  w0c : Int
  w1f : Int
  w1c : Int
  w2f : Int
  w2c : Int
  w3f : Int
  w3c : Int
  ev : Int
  st : Int

abbrev cfV (A : Option Addr) (n c : Nat) (x : Cf) : Value := .agg #[.slice A n c, .int .i64 x.fi, .int .i64 x.la, .int .i64 x.re, .int .i64 x.ti, .int .i64 x.de, .int .i64 x.w0f, .int .i64 x.w0c, .int .i64 x.w1f, .int .i64 x.w1c, .int .i64 x.w2f, .int .i64 x.w2c, .int .i64 x.w3f, .int .i64 x.w3c, .int .i64 x.ev, .int .i64 x.st]
def inB (x lo hi : Int) : Bool := decide (lo ≤ x ∧ x ≤ hi)
def rangeB (x : Cf) : Bool := inB x.fi 1 x.la && !decide (247 < x.la) && inB x.re 0 5 && inB x.ti 1 5000000 && inB x.de 0 5000000 && inB x.ev 1 64 && inB x.st 0 1000000
def cntB (c : Int) : Bool := inB c 0 512
def fstB (f c : Int) : Bool := inB f 0 (if 0 < c then 65536 - c else 0)
def cntsB (x : Cf) : Bool := cntB x.w0c && cntB x.w1c && cntB x.w2c && cntB x.w3c
def fstsB (x : Cf) : Bool := fstB x.w0f x.w0c && fstB x.w1f x.w1c && fstB x.w2f x.w2c && fstB x.w3f x.w3c
def wndZ (x : Cf) : Int := if cntsB x = false then 4 else if fstsB x = false then 7 else 0
def checkZ (x : Cf) : Int := if listB x.ss = false then 5 else if rangeB x = false then 3 else wndZ x

theorem within_any (x lo hi : Int) (r : Bool) (h : decide (lo ≤ x ∧ x ≤ hi) = r) (w : World) : Calls Try.prog 36 #[.int .i64 x, .int .i64 lo, .int .i64 hi] w fun e w' => e = .returned (.bool r) ∧ w = w' := by
  by_cases h1 : lo ≤ x
  · by_cases h2 : x ≤ hi
    · obtain rfl : r = true := by rw [← h]; simp [h1, h2]
      clear h
      go_enter Try.func36, Try.ntmps36
      go_wp2
      go_ret
      exact ⟨rfl, rfl⟩
    · obtain rfl : r = false := by rw [← h]; simp [h2]
      clear h
      go_enter Try.func36, Try.ntmps36
      go_wp2
      go_ret
      exact ⟨rfl, rfl⟩
  · obtain rfl : r = false := by rw [← h]; simp [h1]
    clear h
    go_enter Try.func36, Try.ntmps36
    go_wp2
    go_ret
    exact ⟨rfl, rfl⟩

theorem rin_any (x lo hi : Int) (r : Bool) (h : decide (lo ≤ x ∧ x ≤ hi) = r) (w : World) : Calls Try.prog 25 #[.int .i64 x, .int .i64 lo, .int .i64 hi] w fun e w' => e = .returned (.bool r) ∧ w = w' := by
  by_cases h1 : lo ≤ x
  · by_cases h2 : x ≤ hi
    · obtain rfl : r = true := by rw [← h]; simp [h1, h2]
      clear h
      go_enter Try.func25, Try.ntmps25
      go_wp2
      go_ret
      exact ⟨rfl, rfl⟩
    · obtain rfl : r = false := by rw [← h]; simp [h2]
      clear h
      go_enter Try.func25, Try.ntmps25
      go_wp2
      go_ret
      exact ⟨rfl, rfl⟩
  · obtain rfl : r = false := by rw [← h]; simp [h1]
    clear h
    go_enter Try.func25, Try.ntmps25
    go_wp2
    go_ret
    exact ⟨rfl, rfl⟩

set_option maxRecDepth 100000 in
set_option maxHeartbeats 4000000 in
theorem check_any (x : Cf) (A : Option Addr) (n c B : Nat) (z : Int) (w : World) (hr : Rd w B 2 A n (stCells x.ss)) (hl : x.ss.length = n) (hn : n ≤ maxLen) (hz : checkZ x = z) :
    Calls Try.prog 29 #[cfV A n c x] w fun e w' => e = .returned (.int .i64 z) ∧ Below w.heap.size w w' := by
  have hr := hr.fits (by decide)
  obtain ⟨ss, fi, la, re, ti, de, w0f, w0c, w1f, w1c, w2f, w2c, w3f, w3c, ev, st⟩ := x
  simp only at hr hl
  obtain ⟨r, hrr⟩ : ∃ r, listB ss = r := ⟨_, rfl⟩
  have HLs := Lib.hid (fun (W : World) (h : Below w.heap.size w W) => list_any ss A n c _ r W (hr.below h (Nat.le_refl _)) hl hn hrr)
  obtain ⟨r0, hr0⟩ : ∃ r, inB fi 1 la = r := ⟨_, rfl⟩
  have HR0 := Lib.hid (fun w => within_any fi 1 la r0 hr0 w)
  obtain ⟨r1, hr1⟩ : ∃ r, inB re 0 5 = r := ⟨_, rfl⟩
  have HR1 := Lib.hid (fun w => within_any re 0 5 r1 hr1 w)
  obtain ⟨r2, hr2⟩ : ∃ r, inB ti 1 5000000 = r := ⟨_, rfl⟩
  have HR2 := Lib.hid (fun w => within_any ti 1 5000000 r2 hr2 w)
  obtain ⟨r3, hr3⟩ : ∃ r, inB de 0 5000000 = r := ⟨_, rfl⟩
  have HR3 := Lib.hid (fun w => within_any de 0 5000000 r3 hr3 w)
  obtain ⟨r4, hr4⟩ : ∃ r, inB ev 1 64 = r := ⟨_, rfl⟩
  have HR4 := Lib.hid (fun w => within_any ev 1 64 r4 hr4 w)
  obtain ⟨r5, hr5⟩ : ∃ r, inB st 0 1000000 = r := ⟨_, rfl⟩
  have HR5 := Lib.hid (fun w => within_any st 0 1000000 r5 hr5 w)
  obtain ⟨rl, hrl⟩ : ∃ r, decide (247 < la) = r := ⟨_, rfl⟩
  obtain ⟨o0, ho0⟩ : ∃ r, cntB w0c = r := ⟨_, rfl⟩
  have HO0 := Lib.hid (fun w => within_any w0c 0 512 o0 ho0 w)
  obtain ⟨f0, hf0⟩ : ∃ r, fstB w0f w0c = r := ⟨_, rfl⟩
  have HF0 := Lib.hid (fun (m : Int) (hm : (if 0 < w0c then 65536 - w0c else 0) = m) w => within_any w0f 0 m f0 (by rw [← hm]; exact hf0) w)
  obtain ⟨o1, ho1⟩ : ∃ r, cntB w1c = r := ⟨_, rfl⟩
  have HO1 := Lib.hid (fun w => within_any w1c 0 512 o1 ho1 w)
  obtain ⟨f1, hf1⟩ : ∃ r, fstB w1f w1c = r := ⟨_, rfl⟩
  have HF1 := Lib.hid (fun (m : Int) (hm : (if 0 < w1c then 65536 - w1c else 0) = m) w => within_any w1f 0 m f1 (by rw [← hm]; exact hf1) w)
  obtain ⟨o2, ho2⟩ : ∃ r, cntB w2c = r := ⟨_, rfl⟩
  have HO2 := Lib.hid (fun w => within_any w2c 0 512 o2 ho2 w)
  obtain ⟨f2, hf2⟩ : ∃ r, fstB w2f w2c = r := ⟨_, rfl⟩
  have HF2 := Lib.hid (fun (m : Int) (hm : (if 0 < w2c then 65536 - w2c else 0) = m) w => within_any w2f 0 m f2 (by rw [← hm]; exact hf2) w)
  obtain ⟨o3, ho3⟩ : ∃ r, cntB w3c = r := ⟨_, rfl⟩
  have HO3 := Lib.hid (fun w => within_any w3c 0 512 o3 ho3 w)
  obtain ⟨f3, hf3⟩ : ∃ r, fstB w3f w3c = r := ⟨_, rfl⟩
  have HF3 := Lib.hid (fun (m : Int) (hm : (if 0 < w3c then 65536 - w3c else 0) = m) w => within_any w3f 0 m f3 (by rw [← hm]; exact hf3) w)
  have hz2 : (if r = false then 5 else if (r0 && !rl && r1 && r2 && r3 && r4 && r5) = false then 3 else if (o0 && o1 && o2 && o3) = false then 4 else if (f0 && f1 && f2 && f3) = false then 7 else 0) = z := by
    rw [← hz]; simp only [checkZ, rangeB, wndZ, cntsB, fstsB, hrr, hr0, hrl, hr1, hr2, hr3, hr4, hr5, ho0, ho1, ho2, ho3, hf0, hf1, hf2, hf3]
  have HRL := Lib.hid hrl
  have HCB0 := Lib.hid ho0
  have HCB1 := Lib.hid ho1
  have HCB2 := Lib.hid ho2
  have HCB3 := Lib.hid ho3
  have HZ := Lib.hid hz2
  clear hr hl hrr hr0 hr1 hr2 hr3 hr4 hr5 hrl ho0 ho1 ho2 ho3 hf0 hf1 hf2 hf3 hz hz2
  go_enter Try.func29, Try.ntmps29
  go_wp2_with fail
  have HB := Lib.hid (Box.alloc_ (w := w) (cs := #[.slice A n c, .int .i64 fi, .int .i64 la, .int .i64 re, .int .i64 ti, .int .i64 de, .int .i64 w0f, .int .i64 w0c, .int .i64 w1f, .int .i64 w1c, .int .i64 w2f, .int .i64 w2c, .int .i64 w3f, .int .i64 w3c, .int .i64 ev, .int .i64 st]) (e := 33))
  have hb0 : Below w.heap.size w (w.alloc (.cells #[.slice A n c, .int .i64 fi, .int .i64 la, .int .i64 re, .int .i64 ti, .int .i64 de, .int .i64 w0f, .int .i64 w0c, .int .i64 w1f, .int .i64 w1c, .int .i64 w2f, .int .i64 w2c, .int .i64 w3f, .int .i64 w3c, .int .i64 ev, .int .i64 st] 33)) := (Below.refl _ _).alloc (Nat.le_refl _) _
  refine (HLs.out _ hb0).mono ?_
  rintro e w1 ⟨rfl, hb1⟩
  have HB1 := Lib.hid (HB.out.below hb1)
  have hbw := hb0.trans (hb1.mono hb0.size)
  clear hb0 hb1 HB
  cases r
  · have hz := HZ.out
    rw [if_pos rfl] at hz
    subst hz
    go_wp2
    go_ret
    exact ⟨rfl, hbw⟩
  · have hz := HZ.out
    rw [if_neg (by simp)] at hz
    have HZ := Lib.hid hz
    clear hz
    obtain ⟨q1, z1, l1⟩ := HB1.out
    go_upto_region 3 with fail
    obtain ⟨g, hg⟩ : ∃ g, (r0 && !rl && r1 && r2 && r3 && r4 && r5) = g := ⟨_, rfl⟩
    go_cut [52] (fun v x => v = .bool (!g) ∧ x = w1)
    case first =>
      clear HZ HB1 HO0 HO1 HO2 HO3 HF0 HF1 HF2 HF3 HCB0 HCB1 HCB2 HCB3 z1 l1 hbw
      cases r0
      · obtain rfl : g = false := by rw [← hg]; simp
        go_wp2_with fail
        refine (HR0.out _).mono ?_
        rintro e wx ⟨rfl, rfl⟩
        go_wp2_with fail
        go_meet
        case rel => exact ⟨rfl, rfl⟩
      · cases rl
        · cases r1
          · obtain rfl : g = false := by rw [← hg]; simp
            have hrl : decide (247 < la) = false := HRL.out
            go_wp2_with fail
            refine (HR0.out _).mono ?_
            rintro e wx ⟨rfl, rfl⟩
            go_wp2_with fail
            refine (HR1.out _).mono ?_
            rintro e wx ⟨rfl, rfl⟩
            go_wp2_with fail
            go_meet
            case rel => exact ⟨rfl, rfl⟩
          · cases r2
            · obtain rfl : g = false := by rw [← hg]; simp
              have hrl : decide (247 < la) = false := HRL.out
              go_wp2_with fail
              refine (HR0.out _).mono ?_
              rintro e wx ⟨rfl, rfl⟩
              go_wp2_with fail
              refine (HR1.out _).mono ?_
              rintro e wx ⟨rfl, rfl⟩
              go_wp2_with fail
              refine (HR2.out _).mono ?_
              rintro e wx ⟨rfl, rfl⟩
              go_wp2_with fail
              go_meet
              case rel => exact ⟨rfl, rfl⟩
            · cases r3
              · obtain rfl : g = false := by rw [← hg]; simp
                have hrl : decide (247 < la) = false := HRL.out
                go_wp2_with fail
                refine (HR0.out _).mono ?_
                rintro e wx ⟨rfl, rfl⟩
                go_wp2_with fail
                refine (HR1.out _).mono ?_
                rintro e wx ⟨rfl, rfl⟩
                go_wp2_with fail
                refine (HR2.out _).mono ?_
                rintro e wx ⟨rfl, rfl⟩
                go_wp2_with fail
                refine (HR3.out _).mono ?_
                rintro e wx ⟨rfl, rfl⟩
                go_wp2_with fail
                go_meet
                case rel => exact ⟨rfl, rfl⟩
              · cases r4
                · obtain rfl : g = false := by rw [← hg]; simp
                  have hrl : decide (247 < la) = false := HRL.out
                  go_wp2_with fail
                  refine (HR0.out _).mono ?_
                  rintro e wx ⟨rfl, rfl⟩
                  go_wp2_with fail
                  refine (HR1.out _).mono ?_
                  rintro e wx ⟨rfl, rfl⟩
                  go_wp2_with fail
                  refine (HR2.out _).mono ?_
                  rintro e wx ⟨rfl, rfl⟩
                  go_wp2_with fail
                  refine (HR3.out _).mono ?_
                  rintro e wx ⟨rfl, rfl⟩
                  go_wp2_with fail
                  refine (HR4.out _).mono ?_
                  rintro e wx ⟨rfl, rfl⟩
                  go_wp2_with fail
                  go_meet
                  case rel => exact ⟨rfl, rfl⟩
                · cases r5
                  · obtain rfl : g = false := by rw [← hg]; simp
                    have hrl : decide (247 < la) = false := HRL.out
                    go_wp2_with fail
                    refine (HR0.out _).mono ?_
                    rintro e wx ⟨rfl, rfl⟩
                    go_wp2_with fail
                    refine (HR1.out _).mono ?_
                    rintro e wx ⟨rfl, rfl⟩
                    go_wp2_with fail
                    refine (HR2.out _).mono ?_
                    rintro e wx ⟨rfl, rfl⟩
                    go_wp2_with fail
                    refine (HR3.out _).mono ?_
                    rintro e wx ⟨rfl, rfl⟩
                    go_wp2_with fail
                    refine (HR4.out _).mono ?_
                    rintro e wx ⟨rfl, rfl⟩
                    go_wp2_with fail
                    refine (HR5.out _).mono ?_
                    rintro e wx ⟨rfl, rfl⟩
                    go_wp2_with fail
                    go_meet
                    case rel => exact ⟨rfl, rfl⟩
                  · obtain rfl : g = true := by rw [← hg]; rfl
                    have hrl : decide (247 < la) = false := HRL.out
                    go_wp2_with fail
                    refine (HR0.out _).mono ?_
                    rintro e wx ⟨rfl, rfl⟩
                    go_wp2_with fail
                    refine (HR1.out _).mono ?_
                    rintro e wx ⟨rfl, rfl⟩
                    go_wp2_with fail
                    refine (HR2.out _).mono ?_
                    rintro e wx ⟨rfl, rfl⟩
                    go_wp2_with fail
                    refine (HR3.out _).mono ?_
                    rintro e wx ⟨rfl, rfl⟩
                    go_wp2_with fail
                    refine (HR4.out _).mono ?_
                    rintro e wx ⟨rfl, rfl⟩
                    go_wp2_with fail
                    refine (HR5.out _).mono ?_
                    rintro e wx ⟨rfl, rfl⟩
                    go_wp2_with fail
                    go_meet
                    case rel => exact ⟨rfl, rfl⟩
        · obtain rfl : g = false := by rw [← hg]; simp
          have hrl : decide (247 < la) = true := HRL.out
          go_wp2_with fail
          refine (HR0.out _).mono ?_
          rintro e wx ⟨rfl, rfl⟩
          go_wp2_with fail
          go_meet
          case rel => exact ⟨rfl, rfl⟩
    case rest =>
      obtain ⟨rfl, rfl⟩ := hcut
      rw [hg] at HZ
      clear hg HR0 HR1 HR2 HR3 HR4 HR5 HRL
      cases g
      · have hz := HZ.out
        rw [if_pos rfl] at hz
        subst hz
        go_wp2
        go_ret
        exact ⟨rfl, hbw⟩
      · have hz := HZ.out
        rw [if_neg (by simp)] at hz
        have HZ := Lib.hid hz
        clear hz
        obtain ⟨W1, hW1⟩ : ∃ W1 : World, W1 = wc := ⟨_, rfl⟩
        subst hW1
        go_wp2_with fail
        have i0 : ∀ w, (Instr.index 31 (.agg #[.int .i64 w0f, .int .i64 w0c, .int .i64 w1f, .int .i64 w1c, .int .i64 w2f, .int .i64 w2c, .int .i64 w3f, .int .i64 w3c]) (.int .i64 0)).run Try.prog w = .ok (.agg #[.int .i64 w0f, .int .i64 w0c]) w := fun _ => by kernel_rfl
        have i1 : ∀ w, (Instr.index 31 (.agg #[.int .i64 w0f, .int .i64 w0c, .int .i64 w1f, .int .i64 w1c, .int .i64 w2f, .int .i64 w2c, .int .i64 w3f, .int .i64 w3c]) (.int .i64 1)).run Try.prog w = .ok (.agg #[.int .i64 w1f, .int .i64 w1c]) w := fun _ => by kernel_rfl
        have i2 : ∀ w, (Instr.index 31 (.agg #[.int .i64 w0f, .int .i64 w0c, .int .i64 w1f, .int .i64 w1c, .int .i64 w2f, .int .i64 w2c, .int .i64 w3f, .int .i64 w3c]) (.int .i64 2)).run Try.prog w = .ok (.agg #[.int .i64 w2f, .int .i64 w2c]) w := fun _ => by kernel_rfl
        have i3 : ∀ w, (Instr.index 31 (.agg #[.int .i64 w0f, .int .i64 w0c, .int .i64 w1f, .int .i64 w1c, .int .i64 w2f, .int .i64 w2c, .int .i64 w3f, .int .i64 w3c]) (.int .i64 3)).run Try.prog w = .ok (.agg #[.int .i64 w3f, .int .i64 w3c]) w := fun _ => by kernel_rfl
        go_loopw [4, 55] (fun p i wr => ((i = .int .i64 0) ∨ (i = .int .i64 1 ∧ o0 = true) ∨ (i = .int .i64 2 ∧ o0 = true ∧ o1 = true) ∨ (i = .int .i64 3 ∧ o0 = true ∧ o1 = true ∧ o2 = true) ∨ (i = .int .i64 4 ∧ o0 = true ∧ o1 = true ∧ o2 = true ∧ o3 = true)) ∧ Below W1.heap.size W1 wr) (fun _ i _ => 4 - (intOf i).toNat)
        case atStart => exact ⟨.inl rfl, Below.refl _ _⟩
        case round =>
          obtain ⟨hrel, hbr⟩ := hrel
          have HB2 := Lib.hid (HB1.out.below hbr)
          have hbw2 := ext_trans hbw hbr
          rcases hrel with rfl | ⟨rfl, rfl⟩ | ⟨rfl, rfl, rfl⟩ | ⟨rfl, rfl, rfl, rfl⟩ | ⟨rfl, rfl, rfl, rfl, rfl⟩
          · go_wp2_with fail
            refine (HO0.out _).mono ?_
            rintro e wx ⟨rfl, rfl⟩
            cases o0
            · have hz := HZ.out
              simp only [Bool.and_false, Bool.false_and, Bool.and_true, Bool.true_and, if_true] at hz
              subst hz
              go_wp2
              go_ret
              exact ⟨rfl, hbw2.alloc hbw2.size _⟩
            · go_wp2_with fail
              go_roundw
              case rel =>
                (repeat apply Exists.intro)
                refine ⟨?_, rfl⟩
                exact ⟨.inr (.inl ⟨rfl, (by first | rfl | trivial)⟩), hbr.alloc hbr.size _⟩
              case measure => simp [intOf]
          · go_wp2_with fail
            refine (HO1.out _).mono ?_
            rintro e wx ⟨rfl, rfl⟩
            cases o1
            · have hz := HZ.out
              simp only [Bool.and_false, Bool.false_and, Bool.and_true, Bool.true_and, if_true] at hz
              subst hz
              go_wp2
              go_ret
              exact ⟨rfl, hbw2.alloc hbw2.size _⟩
            · go_wp2_with fail
              go_roundw
              case rel =>
                (repeat apply Exists.intro)
                refine ⟨?_, rfl⟩
                exact ⟨.inr (.inr (.inl ⟨rfl, (by first | rfl | trivial), (by first | rfl | trivial)⟩)), hbr.alloc hbr.size _⟩
              case measure => simp [intOf]
          · go_wp2_with fail
            refine (HO2.out _).mono ?_
            rintro e wx ⟨rfl, rfl⟩
            cases o2
            · have hz := HZ.out
              simp only [Bool.and_false, Bool.false_and, Bool.and_true, Bool.true_and, if_true] at hz
              subst hz
              go_wp2
              go_ret
              exact ⟨rfl, hbw2.alloc hbw2.size _⟩
            · go_wp2_with fail
              go_roundw
              case rel =>
                (repeat apply Exists.intro)
                refine ⟨?_, rfl⟩
                exact ⟨.inr (.inr (.inr (.inl ⟨rfl, (by first | rfl | trivial), (by first | rfl | trivial), (by first | rfl | trivial)⟩))), hbr.alloc hbr.size _⟩
              case measure => simp [intOf]
          · go_wp2_with fail
            refine (HO3.out _).mono ?_
            rintro e wx ⟨rfl, rfl⟩
            cases o3
            · have hz := HZ.out
              simp only [Bool.and_false, Bool.false_and, Bool.and_true, Bool.true_and, if_true] at hz
              subst hz
              go_wp2
              go_ret
              exact ⟨rfl, hbw2.alloc hbw2.size _⟩
            · go_wp2_with fail
              go_roundw
              case rel =>
                (repeat apply Exists.intro)
                refine ⟨?_, rfl⟩
                exact ⟨.inr (.inr (.inr (.inr (⟨rfl, (by first | rfl | trivial), (by first | rfl | trivial), (by first | rfl | trivial), (by first | rfl | trivial)⟩)))), hbr.alloc hbr.size _⟩
              case measure => simp [intOf]
          · have hz := HZ.out
            rw [if_neg (by simp)] at hz
            have HZ := Lib.hid hz
            clear hz HO0 HO1 HO2 HO3
            obtain ⟨q2, z2, l2⟩ := HB2.out
            have hc0 : 0 ≤ w0c ∧ w0c ≤ 512 := of_decide_eq_true HCB0.out
            have hc1 : 0 ≤ w1c ∧ w1c ≤ 512 := of_decide_eq_true HCB1.out
            have hc2 : 0 ≤ w2c ∧ w2c ≤ 512 := of_decide_eq_true HCB2.out
            have hc3 : 0 ≤ w3c ∧ w3c ≤ 512 := of_decide_eq_true HCB3.out
            obtain ⟨hc00, hc01⟩ := hc0
            obtain ⟨hc10, hc11⟩ := hc1
            obtain ⟨hc20, hc21⟩ := hc2
            obtain ⟨hc30, hc31⟩ := hc3
            go_wp2_with fail
            obtain ⟨W2, hW2⟩ : ∃ W2 : World, W2 = wr := ⟨_, rfl⟩
            subst hW2
            go_loopw [6, 7, 65] (fun p m i wr => ((i = .int .i64 0) ∨ (i = .int .i64 1 ∧ f0 = true) ∨ (i = .int .i64 2 ∧ f0 = true ∧ f1 = true) ∨ (i = .int .i64 3 ∧ f0 = true ∧ f1 = true ∧ f2 = true) ∨ (i = .int .i64 4 ∧ f0 = true ∧ f1 = true ∧ f2 = true ∧ f3 = true)) ∧ Below w.heap.size w wr) (fun _ _ i _ => 4 - (intOf i).toNat)
            case atStart => exact ⟨.inl rfl, hbw2⟩
            case round =>
              obtain ⟨hrel, hbr⟩ := hrel
              clear q2 z2 l2 hbw2
              rcases hrel with rfl | ⟨rfl, rfl⟩ | ⟨rfl, rfl, rfl⟩ | ⟨rfl, rfl, rfl, rfl⟩ | ⟨rfl, rfl, rfl, rfl, rfl⟩
              · by_cases hp : 0 < w0c
                all_goals
                  go_wp2_with fail
                  first | refine (HF0.out (65536 - w0c) (if_pos hp) _).mono ?_ | refine (HF0.out 0 (if_neg (by omega)) _).mono ?_
                  rintro e wx ⟨rfl, rfl⟩
                  cases f0
                  · have hz := HZ.out
                    simp only [Bool.and_false, Bool.false_and, Bool.and_true, Bool.true_and, if_true] at hz
                    subst hz
                    go_wp2
                    go_ret
                    exact ⟨rfl, hbr.alloc hbr.size _⟩
                  · go_wp2_with fail
                    go_roundw
                    case rel =>
                      (repeat apply Exists.intro)
                      refine ⟨?_, rfl⟩
                      exact ⟨.inr (.inl ⟨rfl, (by first | rfl | trivial)⟩), hbr.alloc hbr.size _⟩
                    case measure => simp [intOf]
              · by_cases hp : 0 < w1c
                all_goals
                  go_wp2_with fail
                  first | refine (HF1.out (65536 - w1c) (if_pos hp) _).mono ?_ | refine (HF1.out 0 (if_neg (by omega)) _).mono ?_
                  rintro e wx ⟨rfl, rfl⟩
                  cases f1
                  · have hz := HZ.out
                    simp only [Bool.and_false, Bool.false_and, Bool.and_true, Bool.true_and, if_true] at hz
                    subst hz
                    go_wp2
                    go_ret
                    exact ⟨rfl, hbr.alloc hbr.size _⟩
                  · go_wp2_with fail
                    go_roundw
                    case rel =>
                      (repeat apply Exists.intro)
                      refine ⟨?_, rfl⟩
                      exact ⟨.inr (.inr (.inl ⟨rfl, (by first | rfl | trivial), (by first | rfl | trivial)⟩)), hbr.alloc hbr.size _⟩
                    case measure => simp [intOf]
              · by_cases hp : 0 < w2c
                all_goals
                  go_wp2_with fail
                  first | refine (HF2.out (65536 - w2c) (if_pos hp) _).mono ?_ | refine (HF2.out 0 (if_neg (by omega)) _).mono ?_
                  rintro e wx ⟨rfl, rfl⟩
                  cases f2
                  · have hz := HZ.out
                    simp only [Bool.and_false, Bool.false_and, Bool.and_true, Bool.true_and, if_true] at hz
                    subst hz
                    go_wp2
                    go_ret
                    exact ⟨rfl, hbr.alloc hbr.size _⟩
                  · go_wp2_with fail
                    go_roundw
                    case rel =>
                      (repeat apply Exists.intro)
                      refine ⟨?_, rfl⟩
                      exact ⟨.inr (.inr (.inr (.inl ⟨rfl, (by first | rfl | trivial), (by first | rfl | trivial), (by first | rfl | trivial)⟩))), hbr.alloc hbr.size _⟩
                    case measure => simp [intOf]
              · by_cases hp : 0 < w3c
                all_goals
                  go_wp2_with fail
                  first | refine (HF3.out (65536 - w3c) (if_pos hp) _).mono ?_ | refine (HF3.out 0 (if_neg (by omega)) _).mono ?_
                  rintro e wx ⟨rfl, rfl⟩
                  cases f3
                  · have hz := HZ.out
                    simp only [Bool.and_false, Bool.false_and, Bool.and_true, Bool.true_and, if_true] at hz
                    subst hz
                    go_wp2
                    go_ret
                    exact ⟨rfl, hbr.alloc hbr.size _⟩
                  · go_wp2_with fail
                    go_roundw
                    case rel =>
                      (repeat apply Exists.intro)
                      refine ⟨?_, rfl⟩
                      exact ⟨.inr (.inr (.inr (.inr (⟨rfl, (by first | rfl | trivial), (by first | rfl | trivial), (by first | rfl | trivial), (by first | rfl | trivial)⟩)))), hbr.alloc hbr.size _⟩
                    case measure => simp [intOf]
              · have hz := HZ.out
                rw [if_neg (by simp)] at hz
                subst hz
                go_wp2
                go_ret
                exact ⟨rfl, hbr⟩
end Go.Proofs.Ytjpljjhnjholdaa

/- Layer 25: contract of Feed. -/
import Derived.Test.YtdkkfahnkenplaaNpF
set_option linter.unusedVariables false
set_option linter.unusedSimpArgs false
namespace Go.Proofs.Ytdkkfahnkenplaa
open Go.RowKit
variable {F : Nat → Prop}

/-- An outcome's cells. -/
structure Ocv where
  v : Int
  f : Int
  e : Int
  dA : Option Addr
  dn : Nat
  dc : Nat
  cd : Int
  lv : Int
  mo : Bool
  nx : Int
  oA : Option Addr
  on : Nat
  oc : Nat
abbrev ocCells (o : Ocv) : Array Value := #[.int .i64 o.v, .int .i64 o.f, .int .i64 o.e, .slice o.dA o.dn o.dc, .int .i64 o.cd, .int .i64 o.lv, .bool o.mo, .int .i64 o.nx, .slice o.oA o.on o.oc]
abbrev ocV (o : Ocv) : Value := .agg (ocCells o)
def oYes (o : Ocv) : Bool := decide (o.v = 1)
def oNo (o : Ocv) : Bool := decide (o.v = 2 ∧ o.e = 2)
theorem yes_no (o : Ocv) : ¬ (oYes o = true ∧ oNo o = true) := by
  simp only [oYes, oNo, decide_eq_true_eq]; omega
def feedS (S : Mst) (yes no : Bool) : Mst :=
  if S.mode = 2 then halveS { S with q := S.q + 1 } (sizeN S) yes no
  else if yes = true then learnS { S with q := S.q + 1 } (sizeN S) 1 1
  else if no = true then (if 1 < sizeN S then { S with q := S.q + 1, mode := 2, lo := 0, hi := sizeN S } else learnS { S with q := S.q + 1 } 1 2 0)
  else if 1 < sizeN S then { S with q := S.q + 1, mode := 0 } else learnS { S with q := S.q + 1 } 1 3 0
theorem size_bd {S : Mst} (h : MInv S) (hl : S.ks.length < S.N) : 1 ≤ sizeN S ∧ S.ks.length + sizeN S ≤ S.N ∧ sizeN S ≤ 2000 ∧ (S.mode = 2 → S.lo < sizeN S ∧ sizeN S < S.hi) := by
  obtain ⟨⟨k1, k2, k3, k4, k5, k6⟩, h1, h2, h3⟩ := h
  unfold sizeN
  by_cases m1 : S.mode = 1
  · rw [if_pos m1]; refine ⟨by omega, by omega, by omega, by omega⟩
  · rw [if_neg m1]
    by_cases m2 : S.mode = 2
    · rw [if_pos m2]; have := h2 m2; refine ⟨by omega, by omega, by omega, by omega⟩
    · rw [if_neg m2]; refine ⟨by omega, by omega, by omega, by omega⟩

set_option maxRecDepth 100000 in
set_option maxHeartbeats 4000000 in
theorem feed_any (S : Mst) (g : Nat) (o : Ocv) (w : World) (hS : MapAt F w g S) (hI : MInv S) (hl : S.ks.length < S.N) (hq : S.q < 1000000) :
    Calls Try.prog 17 #[mptr g, ocV o] w fun e w' => e = .returned (.int .i64 0) ∧ MapAt F w' g (feedS S (oYes o) (oNo o)) ∧ w.grownBy w' (some g) := by
  obtain ⟨n1, n2, n3, n4⟩ := size_bd hI hl
  obtain ⟨hk, hM, hm2, hm3⟩ := hI
  have hk0 := hk
  obtain ⟨k1, k2, k3, k4, k5, k6⟩ := hk
  obtain ⟨n, hn⟩ : ∃ n, sizeN S = n := ⟨_, rfl⟩
  obtain ⟨yes, hy⟩ : ∃ y, oYes o = y := ⟨_, rfl⟩
  obtain ⟨no, hno⟩ : ∃ y, oNo o = y := ⟨_, rfl⟩
  have hyn := yes_no o
  have hfd : feedS S (oYes o) (oNo o) = feedS S yes no := by rw [hy, hno]
  rw [hfd]
  rw [hy, hno] at hyn
  rw [hn] at n1 n2 n3 n4
  have HE := Lib.hid (fun (W : World) (h : MapAt F W g S) => ended_any S g W h hk0 false (by simp; omega))
  have HZ := Lib.hid (fun (W : World) (h : MapAt F W g { S with q := S.q + 1 }) => size_any { S with q := S.q + 1 } g W h ⟨k1, k2, k3, k4, k5, by dsimp only; omega⟩ n hn)
  obtain ⟨v, f, ex, dA, dn, dc, cd, lv, mo, nx, oA, on, oc⟩ := o
  simp only [oYes, oNo] at hy hno
  have hv1 : (v == 1) = yes := by rw [← hy]; rfl
  have HS := Lib.hid hS
  have HN := Lib.hid hn
  have hok1 : Mok { S with q := S.q + 1 } := ⟨k1, k2, k3, k4, k5, by dsimp only; omega⟩
  have HK := Lib.hid hok1
  have HNO := Lib.hid hno
  have hb0 : Below w.heap.size w (w.alloc (.cells #[.int .i64 v, .int .i64 f, .int .i64 ex, .slice dA dn dc, .int .i64 cd, .int .i64 lv, .bool mo, .int .i64 nx, .slice oA on oc] 49)) := (Below.refl _ _).alloc (Nat.le_refl _) _
  have HB0 := Lib.hid (Box.alloc_ (w := w) (cs := #[.int .i64 v, .int .i64 f, .int .i64 ex, .slice dA dn dc, .int .i64 cd, .int .i64 lv, .bool mo, .int .i64 nx, .slice oA on oc]) (e := 49))
  have hgl : g < w.heap.size := hS.cell.2.2.2.2.2.2.2.2.2
  clear hS hfd hn hy hno hok1 hk0
  go_enter Try.func17, Try.ntmps17
  go_wp2_with fail
  refine (HE.out _ (HS.out.below hb0)).mono ?_
  rintro e w1 ⟨rfl, hb1⟩
  have hbw := hb0.trans (hb1.mono hb0.size)
  have HS1 := Lib.hid (HS.out.below hbw)
  have HB1 := Lib.hid (HB0.out.below hb1)
  clear hb0 hb1 HB0 HS HE
  obtain ⟨y0, y1, y2, y3, y4, y5, y6, y8, z, l⟩ := HS1.out.cell
  obtain ⟨qb, zb, lb⟩ := HB1.out
  go_upto_region 7 with fail
  have HS2 := Lib.hid (HS1.out.set (k := 8) (v := .int .i64 ((S.q + 1 : Nat) : Int)) (S' := { S with q := S.q + 1 }) (by omega) (fun A m c => rfl) rfl)
  have hg2 := one_set (one_below (one_refl w g) hbw) 8 (.int .i64 ((S.q + 1 : Nat) : Int))
  have HB2 := Lib.hid (HB1.out.grown (one_set (one_refl w1 g) 8 (.int .i64 ((S.q + 1 : Nat) : Int))) (by omega))
  obtain ⟨W2, hW2⟩ : ∃ W2, w1.setCell ⟨g, 8, none⟩ (.int .i64 ((S.q + 1 : Nat) : Int)) = W2 := ⟨_, rfl⟩
  rw [hW2] at HS2 hg2 HB2
  rw [show ((S.q + 1 : Nat) : Int) = (S.q : Int) + 1 by omega] at hW2
  rw [hW2]
  clear hW2 y0 y1 y2 y3 y4 y5 y6 y8 z l qb zb lb
  obtain ⟨y0, y1, y2, y3, y4, y5, y6, y8, z, l⟩ := HS2.out.cell
  dsimp only at y0 y1 y2 y3 y4 y5 y6 y8
  obtain ⟨qb, zb, lb⟩ := HB2.out
  go_cut [6] (fun b x => b = .bool no ∧ x = W2)
  case first =>
    have hno := HNO.out
    by_cases a1 : v = 2
    · have d1 : (v == 2) = true := by simpa using a1
      by_cases a2 : ex = 2
      · have d2 : (ex == 2) = true := by simpa using a2
        obtain rfl : no = true := by rw [← hno]; simp [a1, a2]
        clear hno a1 a2
        go_wp2_with fail
        go_meet
        case rel => exact ⟨rfl, rfl⟩
      · have d2 : (ex == 2) = false := by simpa using a2
        obtain rfl : no = false := by rw [← hno]; simp [a2]
        clear hno a1 a2
        go_wp2_with fail
        go_meet
        case rel => exact ⟨rfl, rfl⟩
    · have d1 : (v == 2) = false := by simpa using a1
      obtain rfl : no = false := by rw [← hno]; simp [a1]
      clear hno a1
      go_wp2_with fail
      go_meet
      case rel => exact ⟨rfl, rfl⟩
  case rest =>
    obtain ⟨rfl, rfl⟩ := hcut
    clear y0 y1 y2 y3 y4 y5 y6 y8 z l qb zb lb HS1 HB1 hv1
    go_wp2_with fail
    refine (HZ.out _ HS2.out).mono ?_
    rintro e w3 ⟨rfl, hb3⟩
    have HS3 := Lib.hid (HS2.out.below hb3)
    have hg3 := one_below hg2 hb3
    clear hb3 HS2 HB2 hg2 HZ
    obtain ⟨y0, y1, y2, y3, y4, y5, y6, y8, z, l⟩ := HS3.out.cell
    dsimp only at y0 y1 y2 y3 y4 y5 y6 y8
    by_cases m2 : S.mode = 2
    · have d1 : ((S.mode : Int) == 2) = true := by simp; omega
      have hfin : feedS S yes no = halveS { S with q := S.q + 1 } n yes no := by rw [feedS, if_pos m2, HN.out]
      have HH := Lib.hid (halve_any { S with q := S.q + 1 } g w3 HS3.out HK.out n yes no (n4 m2).1 (n4 m2).2 (hm2 m2).2 hyn)
      go_wp2_with fail
      refine HH.out.mono ?_
      rintro e w4 ⟨rfl, hS4, hg4⟩
      go_wp2_with fail
      go_ret
      exact ⟨rfl, by rw [hfin]; exact hS4, one_trans hg3 hg4⟩
    · have d1 : ((S.mode : Int) == 2) = false := by simp; omega
      cases yes
      · cases no
        · by_cases hn1 : 1 < n
          · have d2 : decide ((1 : Int) < (n : Int)) = true := by simp; omega
            have hfin : feedS S false false = { S with q := S.q + 1, mode := 0 } := by rw [feedS, if_neg m2, HN.out]; simp [hn1]
            go_wp2_with fail
            go_ret
            exact ⟨rfl, by rw [hfin]; exact HS3.out.set (k := 4) (v := .int .i64 0) (by omega) (fun A m c => rfl) rfl, one_set hg3 4 _⟩
          · have d2 : decide ((1 : Int) < (n : Int)) = false := by simp; omega
            have hfin : feedS S false false = learnS { S with q := S.q + 1 } 1 3 0 := by rw [feedS, if_neg m2, HN.out]; simp [hn1]
            have HH := Lib.hid (learn_any { S with q := S.q + 1 } g w3 HS3.out HK.out 1 3 0 (by dsimp only; omega))
            go_wp2_with fail
            refine HH.out.mono ?_
            rintro e w4 ⟨rfl, hS4, hg4⟩
            go_wp2_with fail
            go_ret
            exact ⟨rfl, by rw [hfin]; exact hS4, one_trans hg3 hg4⟩
        · by_cases hn1 : 1 < n
          · have d2 : decide ((1 : Int) < (n : Int)) = true := by simp; omega
            have hfin : feedS S false true = { S with q := S.q + 1, mode := 2, lo := 0, hi := n } := by rw [feedS, if_neg m2, HN.out]; simp [hn1]
            have hSa := HS3.out.set (k := 4) (v := .int .i64 2) (S' := { S with q := S.q + 1, mode := 2 }) (by omega) (fun A m c => rfl) rfl
            have hSb := hSa.set (k := 5) (v := .int .i64 0) (S' := { S with q := S.q + 1, mode := 2, lo := 0 }) (by omega) (fun A m c => rfl) rfl
            have hSc := hSb.set (k := 6) (v := .int .i64 n) (S' := { S with q := S.q + 1, mode := 2, lo := 0, hi := n }) (by omega) (fun A m c => rfl) rfl
            have hSd := hSc
            go_wp2_with fail
            go_ret
            exact ⟨rfl, by rw [hfin]; exact hSc, one_set (one_set (one_set hg3 4 _) 5 _) 6 _⟩
          · have d2 : decide ((1 : Int) < (n : Int)) = false := by simp; omega
            have hfin : feedS S false true = learnS { S with q := S.q + 1 } 1 2 0 := by rw [feedS, if_neg m2, HN.out]; simp [hn1]
            have HH := Lib.hid (learn_any { S with q := S.q + 1 } g w3 HS3.out HK.out 1 2 0 (by dsimp only; omega))
            go_wp2_with fail
            refine HH.out.mono ?_
            rintro e w4 ⟨rfl, hS4, hg4⟩
            go_wp2_with fail
            go_ret
            exact ⟨rfl, by rw [hfin]; exact hS4, one_trans hg3 hg4⟩
      · have hfin : feedS S true no = learnS { S with q := S.q + 1 } n 1 1 := by rw [feedS, if_neg m2, HN.out]; simp
        have HH := Lib.hid (learn_any { S with q := S.q + 1 } g w3 HS3.out HK.out n 1 1 (by dsimp only; omega))
        go_wp2_with fail
        refine HH.out.mono ?_
        rintro e w4 ⟨rfl, hS4, hg4⟩
        go_wp2_with fail
        go_ret
        exact ⟨rfl, by rw [hfin]; exact hS4, one_trans hg3 hg4⟩
end Go.Proofs.Ytdkkfahnkenplaa

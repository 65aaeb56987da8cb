/- The reference's Answer to the request of the server identification. -/
import Derived.Test.YtipcnpnfdoainaaSlF
import Derived.Deep.MidRow
set_option linter.unusedVariables false
set_option linter.unusedSimpArgs false
namespace Go.Proofs.Ytipcnpnfdoainaa
open Go.RowKit

/-- A slave is loaded as one value. -/
def LdS (g : Nat) (V : Value) (w : World) : Prop := (Instr.loadAt 54 (.pointer (some ⟨g, 0, none⟩))).run Try.prog w = .ok V w
theorem lds_run {g : Nat} {V : Value} {w : World} {o : Oper} {ev : Operand → Value} {p : Operand} (h : LdS g V w) (ho : o.op = .load 54 p) (hp : ev p = .pointer (some ⟨g, 0, none⟩)) : (execOp ev o).run Try.prog w = .ok (.value V) w := by
  unfold LdS at h
  unfold execOp
  simp only [ho, hp, Sem.run_bind, h, Result.andThen_ok, Sem.run_pure]
/-- At a plain region's list of operations, guarded or not: the whole slave is loaded. -/
theorem wpList_ldS {ops : Array Oper} {rest : List Oper} {o : Oper} {a : Act} {w : World} {Q : Exit → Act → World → Prop} (g : Nat) (V : Value) (p : Operand) (h : LdS g V w) (ho : o.op = .load 54 p) (hp : a.eval p = .pointer (some ⟨g, 0, none⟩))
    (hw : Region.wanted o (yielded ops a.tmps) = true) (hk : wpList Try.prog ops Q rest (a.put o.dst V) w) : wpList Try.prog ops Q (o :: rest) a w := by
  unfold wpList
  rw [if_pos hw]
  left
  unfold Oper.wp
  rw [lds_run h ho hp]
  exact hk
theorem slCells_size (S : Sl) : (slCells S).toList.length = 19 := rfl
theorem slInfo : (Try.prog.info? 54).map (·.size) = some 19 := by kernel_rfl
theorem lds_of (S : Sl) (g : Nat) (W : World) (h : ∀ i, W.cell? ⟨g, i, none⟩ = (slCells S)[i]?) : LdS g (slV S) W := by
  have h1 := run_loadAt_mid (P := Try.prog) W g 0 54 (slCells S).toList _ (fun j v hv => by
    rw [Nat.zero_add, h j]; simpa using hv) Try.underlying54 rfl (by rw [slCells_size]; exact slInfo)
  rw [Array.toArray_toList] at h1
  exact h1
set_option maxHeartbeats 2000000 in
theorem rqvalid17 (w : World) : Calls Try.prog 34 #[sqv 17 0 0 0 0] w fun e w' => e = .returned (.bool true) ∧ Below w.heap.size w w' := by
  go_enter Try.func34, Try.ntmps34
  go_wp2
  go_ret
  exact ⟨rfl, (Below.refl _ _).alloc (Nat.le_refl _) _⟩
def ans17 (S : Sl) : Int × List Int := if S.hs then (0, S.sv) else (1, [])
/-- A reply of the server identification. -/
abbrev rpV (E : Int) (A : Option Addr) (n c : Nat) : Value := .agg #[.int .i64 17, .int .i64 E, .slice A n c, .int .i64 0, .int .i64 0, .bool false, .int .i64 0, .slice none 0 0]
theorem Rd.set1 {w : World} {size n g : Nat} {A : Option Addr} {xs : List Value} (h : Rd w w.heap.size size A n xs) (hne : ∀ b off, A = some ⟨b, off, none⟩ → some b ≠ some g) (k : Nat) (u : Value) : Rd (w.setCell ⟨g, k, none⟩ u) (w.setCell ⟨g, k, none⟩ u).heap.size size A n xs :=
  (h.off_row (one_set (one_refl w g) k u) (Nat.le_refl _) hne).more (one_set (one_refl w g) k u).size
set_option maxRecDepth 100000 in
set_option maxHeartbeats 8000000 in
theorem answer17 (S : Sl) (value : Int) (w : World) (hok : S.ok w w.heap.size) (hs1 : ∀ k, k < 4 → (S.tb k).n ≤ 40) (hs2 : S.on_ ≤ 40) (hs3 : S.sn ≤ 80) (hsl : slB S = true) (hv1 : 0 ≤ value) (hv2 : value ≤ 65535) :
    Calls Try.prog 21 #[slV S, sqv 17 0 0 0 0, .int .i64 value] w fun e w' => ∃ E A n c xs, e = .returned (rpV E A n c) ∧ (E, xs) = ans17 S ∧ Rd w' w'.heap.size 1 A n (by8 xs) ∧ (∀ b off, A = some ⟨b, off, none⟩ → w.heap.size ≤ b ∧ b < w'.heap.size) ∧ Below w.heap.size w w' := by
  have hbS := Box.alloc_ (w := w) (cs := slCells S) (e := 54)
  have hb0 : Below w.heap.size w (((w.alloc (.cells (slCells S) 54)).alloc (.cells #[.int .i64 17, .int .i64 0, .int .i64 0, .int .i64 0, .int .i64 0] 30)).alloc (.cells #[.int .i64 0, .int .i64 0, .slice none 0 0, .int .i64 0, .int .i64 0, .bool false, .int .i64 0, .slice none 0 0] 43)) := ((((Below.refl _ _).alloc (Nat.le_refl _) _)).alloc (by simp) _).alloc (by simp; omega) _
  have hbS := (hbS.alloc' (.cells #[.int .i64 17, .int .i64 0, .int .i64 0, .int .i64 0, .int .i64 0] 30)).alloc' (.cells #[.int .i64 0, .int .i64 0, .slice none 0 0, .int .i64 0, .int .i64 0, .bool false, .int .i64 0, .slice none 0 0] 43)
  have hbQ := (Box.alloc_ (w := w.alloc (.cells (slCells S) 54)) (cs := #[.int .i64 17, .int .i64 0, .int .i64 0, .int .i64 0, .int .i64 0]) (e := 30)).alloc' (.cells #[.int .i64 0, .int .i64 0, .slice none 0 0, .int .i64 0, .int .i64 0, .bool false, .int .i64 0, .slice none 0 0] 43)
  have hbR := Box.alloc_ (w := (w.alloc (.cells (slCells S) 54)).alloc (.cells #[.int .i64 17, .int .i64 0, .int .i64 0, .int .i64 0, .int .i64 0] 30)) (cs := #[.int .i64 0, .int .i64 0, .slice none 0 0, .int .i64 0, .int .i64 0, .bool false, .int .i64 0, .slice none 0 0]) (e := 43)
  simp only [World.size_alloc] at hbQ hbR
  obtain ⟨W1, hW1⟩ : ∃ W, (((w.alloc (.cells (slCells S) 54)).alloc (.cells #[.int .i64 17, .int .i64 0, .int .i64 0, .int .i64 0, .int .i64 0] 30)).alloc (.cells #[.int .i64 0, .int .i64 0, .slice none 0 0, .int .i64 0, .int .i64 0, .bool false, .int .i64 0, .slice none 0 0] 43)) = W := ⟨_, rfl⟩
  rw [hW1] at hb0 hbS hbQ hbR
  have HS := Lib.hid hbS
  have HQ := Lib.hid hbQ
  have HRP := Lib.hid hbR
  have HB := Lib.hid hb0
  have HW1 := Lib.hid hW1
  have HOK := Lib.hid hok
  have HSV := Lib.hid (fun (W : World) (h : Below w.heap.size w W) => slave_any S W ⟨fun k hk => ((hok.1 k hk).below h (Nat.le_refl _)).more h.size, (hok.2.1.below h (Nat.le_refl _)).more h.size, fun o ho => ⟨((hok.2.2.1 o ho).1.below h (Nat.le_refl _)).more h.size, (hok.2.2.1 o ho).2⟩, (hok.2.2.2.below h (Nat.le_refl _)).more h.size⟩ hs1 hs2 hs3 true hsl)
  have d1 : decide (value < 0) = false := by simp; omega
  have d2 : decide (65535 < value) = false := by simp; omega
  have HN := Lib.hid hs3
  clear hbS hbQ hbR hb0 hok hs1 hs2 hs3 hsl hv1 hv2 hW1
  go_enter Try.func21, Try.ntmps21
  go_upto_region 1 with fail
  try rw [HW1.out]
  have HLD := Lib.hid (lds_of S w.heap.size W1 HS.out.1)
  obtain ⟨qq, zq, lq⟩ := HQ.out
  go_wp2_with (refine wpList_ldS w.heap.size (slV S) (.tmp 3) HLD.out rfl rfl (by rfl) ?_)
  refine (HSV.out _ HB.out).mono ?_
  rintro e w2 ⟨rfl, hb2⟩
  have HS2 := Lib.hid (HS.out.below hb2)
  have HQ2 := Lib.hid (HQ.out.below hb2)
  have HR2 := Lib.hid (HRP.out.below hb2)
  have HB2 := Lib.hid (ext_trans HB.out hb2)
  clear hb2 qq zq lq
  obtain ⟨qq, zq, lq⟩ := HQ2.out
  go_wp2_with fail
  refine (rqvalid17 _).mono ?_
  rintro e w3 ⟨rfl, hb3⟩
  have HS3 := Lib.hid (HS2.out.below hb3)
  have HQ3 := Lib.hid (HQ2.out.below hb3)
  have HR3 := Lib.hid (HR2.out.below hb3)
  have HB3 := Lib.hid (ext_trans HB2.out hb3)
  clear hb3 qq zq lq
  obtain ⟨qq, zq, lq⟩ := HQ3.out
  obtain ⟨hs, hhs⟩ : ∃ z, S.hs = z := ⟨_, rfl⟩
  have c17 : w3.cell? ⟨w.heap.size, 17, none⟩ = some (.bool hs) := by rw [← hhs]; exact HS3.out.1 17
  have c18 : w3.cell? ⟨w.heap.size, 18, none⟩ = some (.slice S.sA S.sn S.sc) := HS3.out.1 18
  have hgl := HS3.out.2.2
  have HHS := Lib.hid hhs
  obtain ⟨qr, zr, lr⟩ := HR3.out
  have hr3 := HOK.out.2.2.2.below HB3.out (Nat.le_refl _)
  have HR4 := Lib.hid hr3
  have HSL := Lib.hid (show S.sv.length = S.sn by have := HOK.out.2.2.2.1; simpa using this)
  have hwr : w.heap.size ≤ w.heap.size + 1 + 1 := by omega
  clear hhs hr3
  cases hs
  · have HBz := Lib.hid ((((((((HR3.out.set (k := 0) (v := .int .i64 17) (cs' := #[.int .i64 17, .int .i64 0, .slice none 0 0, .int .i64 0, .int .i64 0, .bool false, .int .i64 0, .slice none 0 0]) (by simp) rfl).set (k := 1) (v := .int .i64 1) (cs' := #[.int .i64 17, .int .i64 1, .slice none 0 0, .int .i64 0, .int .i64 0, .bool false, .int .i64 0, .slice none 0 0]) (by simp) rfl).set (k := 2) (v := .slice none 0 0) (cs' := #[.int .i64 17, .int .i64 1, .slice none 0 0, .int .i64 0, .int .i64 0, .bool false, .int .i64 0, .slice none 0 0]) (by simp) rfl).set (k := 3) (v := .int .i64 0) (cs' := #[.int .i64 17, .int .i64 1, .slice none 0 0, .int .i64 0, .int .i64 0, .bool false, .int .i64 0, .slice none 0 0]) (by simp) rfl).set (k := 4) (v := .int .i64 0) (cs' := #[.int .i64 17, .int .i64 1, .slice none 0 0, .int .i64 0, .int .i64 0, .bool false, .int .i64 0, .slice none 0 0]) (by simp) rfl).set (k := 5) (v := .bool false) (cs' := #[.int .i64 17, .int .i64 1, .slice none 0 0, .int .i64 0, .int .i64 0, .bool false, .int .i64 0, .slice none 0 0]) (by simp) rfl).set (k := 6) (v := .int .i64 0) (cs' := #[.int .i64 17, .int .i64 1, .slice none 0 0, .int .i64 0, .int .i64 0, .bool false, .int .i64 0, .slice none 0 0]) (by simp) rfl).set (k := 7) (v := .slice none 0 0) (cs' := #[.int .i64 17, .int .i64 1, .slice none 0 0, .int .i64 0, .int .i64 0, .bool false, .int .i64 0, .slice none 0 0]) (by simp) rfl)
    have HWz := Lib.hid ((((((((HB3.out.setCell (p := ⟨w.heap.size + 1 + 1, 0, none⟩) hwr (.int .i64 17)).setCell (p := ⟨w.heap.size + 1 + 1, 1, none⟩) hwr (.int .i64 1)).setCell (p := ⟨w.heap.size + 1 + 1, 2, none⟩) hwr (.slice none 0 0)).setCell (p := ⟨w.heap.size + 1 + 1, 3, none⟩) hwr (.int .i64 0)).setCell (p := ⟨w.heap.size + 1 + 1, 4, none⟩) hwr (.int .i64 0)).setCell (p := ⟨w.heap.size + 1 + 1, 5, none⟩) hwr (.bool false)).setCell (p := ⟨w.heap.size + 1 + 1, 6, none⟩) hwr (.int .i64 0)).setCell (p := ⟨w.heap.size + 1 + 1, 7, none⟩) hwr (.slice none 0 0))
    go_wp2
    obtain ⟨qz, zz, lz⟩ := HBz.out
    exact bodyPost_ret (v := rpV 1 none 0 0) (by simp [results, Try.results21, go_sem, qz, zz, lz]) rfl ⟨1, none, 0, 0, [], rfl, by rw [ans17, HHS.out]; rfl, Rd.nil_, (fun b off h => by cases h), HWz.out⟩
  · go_wp2_with (at_builtin; refine wpList_appR (.const (.slice none 0 0)) (.tmp 47) 40 w3.heap.size 5 _ 1 1 _ 0 [] w.heap.size S.sA S.sn S.sc _ Try.underlying40 byteInfo rfl (by decide) rfl rfl rfl rfl (World.ownsRow_nil _ _ _ _) HR4.out (one_ints _ _) (by have := HN.out; omega) (by omega) (Nat.le_refl _) ?_; intro v1 w4 hown hg1 hb1; simp only [Nat.zero_add, List.nil_append] at hown; obtain ⟨A1, c1, hv1, h91, h92⟩ := own_form hown; subst hv1; clear h91 h92; have HR9 := Lib.hid (HR3.out.below hb1); clear qr zr lr; obtain ⟨qr9, zr9, lr9⟩ := HR9.out)
    have HW9 := Lib.hid (ext_trans HB3.out hb1)
    have HNE := Lib.hid (fun (b off : Nat) (hA : A1 = some ⟨b, off, none⟩) => (show some b ≠ some (w.heap.size + 1 + 1) from fun e => by
      subst hA
      injection e with e
      have h1 := (hown.lt b rfl).1
      have h2 := HR3.out.2.2
      omega))
    have HRW := Lib.hid (Rd.of_own hown)
    have HLO := Lib.hid (show ∀ b off, A1 = some ⟨b, off, none⟩ → w.heap.size ≤ b ∧ b < ((((((((w4.setCell ⟨w.heap.size + 1 + 1, 0, none⟩ (.int .i64 17)).setCell ⟨w.heap.size + 1 + 1, 1, none⟩ (.int .i64 0)).setCell ⟨w.heap.size + 1 + 1, 2, none⟩ (.slice A1 S.sn c1)).setCell ⟨w.heap.size + 1 + 1, 3, none⟩ (.int .i64 0)).setCell ⟨w.heap.size + 1 + 1, 4, none⟩ (.int .i64 0)).setCell ⟨w.heap.size + 1 + 1, 5, none⟩ (.bool false)).setCell ⟨w.heap.size + 1 + 1, 6, none⟩ (.int .i64 0)).setCell ⟨w.heap.size + 1 + 1, 7, none⟩ (.slice none 0 0)).heap.size from fun b off hA => by
      subst hA
      have h1 := hown.lt b rfl
      have h2 := HB3.out.size
      exact ⟨by omega, by simpa [World.setCell] using h1.2⟩)
    have HBz := Lib.hid ((((((((HR9.out.set (k := 0) (v := .int .i64 17) (cs' := #[.int .i64 17, .int .i64 0, .slice none 0 0, .int .i64 0, .int .i64 0, .bool false, .int .i64 0, .slice none 0 0]) (by simp) rfl).set (k := 1) (v := .int .i64 0) (cs' := #[.int .i64 17, .int .i64 0, .slice none 0 0, .int .i64 0, .int .i64 0, .bool false, .int .i64 0, .slice none 0 0]) (by simp) rfl).set (k := 2) (v := .slice A1 S.sn c1) (cs' := #[.int .i64 17, .int .i64 0, .slice A1 S.sn c1, .int .i64 0, .int .i64 0, .bool false, .int .i64 0, .slice none 0 0]) (by simp) rfl).set (k := 3) (v := .int .i64 0) (cs' := #[.int .i64 17, .int .i64 0, .slice A1 S.sn c1, .int .i64 0, .int .i64 0, .bool false, .int .i64 0, .slice none 0 0]) (by simp) rfl).set (k := 4) (v := .int .i64 0) (cs' := #[.int .i64 17, .int .i64 0, .slice A1 S.sn c1, .int .i64 0, .int .i64 0, .bool false, .int .i64 0, .slice none 0 0]) (by simp) rfl).set (k := 5) (v := .bool false) (cs' := #[.int .i64 17, .int .i64 0, .slice A1 S.sn c1, .int .i64 0, .int .i64 0, .bool false, .int .i64 0, .slice none 0 0]) (by simp) rfl).set (k := 6) (v := .int .i64 0) (cs' := #[.int .i64 17, .int .i64 0, .slice A1 S.sn c1, .int .i64 0, .int .i64 0, .bool false, .int .i64 0, .slice none 0 0]) (by simp) rfl).set (k := 7) (v := .slice none 0 0) (cs' := #[.int .i64 17, .int .i64 0, .slice A1 S.sn c1, .int .i64 0, .int .i64 0, .bool false, .int .i64 0, .slice none 0 0]) (by simp) rfl)
    have HWz := Lib.hid ((((((((HW9.out.setCell (p := ⟨w.heap.size + 1 + 1, 0, none⟩) hwr (.int .i64 17)).setCell (p := ⟨w.heap.size + 1 + 1, 1, none⟩) hwr (.int .i64 0)).setCell (p := ⟨w.heap.size + 1 + 1, 2, none⟩) hwr (.slice A1 S.sn c1)).setCell (p := ⟨w.heap.size + 1 + 1, 3, none⟩) hwr (.int .i64 0)).setCell (p := ⟨w.heap.size + 1 + 1, 4, none⟩) hwr (.int .i64 0)).setCell (p := ⟨w.heap.size + 1 + 1, 5, none⟩) hwr (.bool false)).setCell (p := ⟨w.heap.size + 1 + 1, 6, none⟩) hwr (.int .i64 0)).setCell (p := ⟨w.heap.size + 1 + 1, 7, none⟩) hwr (.slice none 0 0))
    have HRZ := Lib.hid ((((((((HRW.out.set1 HNE.out 0 (.int .i64 17)).set1 HNE.out 1 (.int .i64 0)).set1 HNE.out 2 (.slice A1 S.sn c1)).set1 HNE.out 3 (.int .i64 0)).set1 HNE.out 4 (.int .i64 0)).set1 HNE.out 5 (.bool false)).set1 HNE.out 6 (.int .i64 0)).set1 HNE.out 7 (.slice none 0 0))
    clear hown hg1 hb1
    try go_wp2
    obtain ⟨qz, zz, lz⟩ := HBz.out
    exact bodyPost_ret (v := rpV 0 A1 S.sn c1) (by simp [results, Try.results21, go_sem, qz, zz, lz]) rfl ⟨0, A1, S.sn, c1, S.sv, rfl, by rw [ans17, HHS.out]; rfl, HRZ.out, HLO.out, HWz.out⟩
end Go.Proofs.Ytipcnpnfdoainaa

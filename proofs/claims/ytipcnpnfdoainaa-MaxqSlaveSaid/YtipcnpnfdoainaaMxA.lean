/- The reference's Answer to a request of a table. -/
import Derived.Test.YtipcnpnfdoainaaPut8
import Derived.Test.YtipcnpnfdoainaaCov
import Derived.Test.YtipcnpnfdoainaaRegX
import Derived.Test.YtipcnpnfdoainaaRegG
import Derived.Test.YtipcnpnfdoainaaChg
import Derived.Test.YtipcnpnfdoainaaBytes
import Derived.Deep.DeepCutAuto
set_option linter.unusedVariables false
set_option linter.unusedSimpArgs false
namespace Go.Proofs.Ytipcnpnfdoainaa
open Go.RowKit

set_option maxHeartbeats 2000000 in
theorem word_any (t a v : Int) (h1 : 1 ≤ t) (h2 : t ≤ 4) (h3 : 0 ≤ a) (h4 : a ≤ 65535) (h5 : 0 ≤ v) (h6 : v ≤ 65535) (w : World) :
    Calls Try.prog 40 #[.int .i64 t, .int .i64 a, .int .i64 v] w fun e w' => ∃ x : Int, e = .returned (.int .i64 x) ∧ 0 ≤ x ∧ x ≤ 65535 ∧ w = w' := by
  have d1 : decide (t < 1) = false := by simp; omega
  have d2 : decide (4 < t) = false := by simp; omega
  have d3 : decide (a < 0) = false := by simp; omega
  have d4 : decide (65536 ≤ a) = false := by simp; omega
  have d5 : decide (v < 0) = false := by simp; omega
  have d6 : decide (65535 < v) = false := by simp; omega
  have e1 : IntKind.i64.wrap (7919 * a) = 7919 * a := IntWalk.i64_in _ ⟨by omega, by omega⟩
  have e2 : IntKind.i64.wrap (v + 7919 * a) = v + 7919 * a := IntWalk.i64_in _ ⟨by omega, by omega⟩
  have e3 : IntKind.i64.wrap (104729 * t) = 104729 * t := IntWalk.i64_in _ ⟨by omega, by omega⟩
  have e4 : IntKind.i64.wrap (v + 7919 * a + 104729 * t) = v + 7919 * a + 104729 * t := IntWalk.i64_in _ ⟨by omega, by omega⟩
  go_enter Try.func40, Try.ntmps40
  go_wp2
  go_ret
  refine ⟨_, rfl, ?_, ?_, rfl⟩
  · first | omega | (rw [Int.tmod_eq_emod_of_nonneg (by omega)]; omega)
  · first | omega | (rw [Int.tmod_eq_emod_of_nonneg (by omega)]; omega)
/-- A reply of a table. -/
abbrev rpT (t E : Int) (A : Option Addr) (n c : Nat) : Value := .agg #[.int .i64 t, .int .i64 E, .slice A n c, .int .i64 0, .int .i64 0, .bool false, .int .i64 0, .slice none 0 0]
abbrev rpC (t E : Int) (v : Value) : Array Value := #[.int .i64 t, .int .i64 E, v, .int .i64 0, .int .i64 0, .bool false, .int .i64 0, .slice none 0 0]
/-- The exception of a table's reply. -/
def TabE (sup : Bool) (most q E : Int) : Prop := (sup = false ∧ E = 1) ∨ (sup = true ∧ most < q ∧ E = 3) ∨ (sup = true ∧ q ≤ most ∧ (E = 0 ∨ E = 2))
/-- What the loop of 'table' holds: the request's box, the result's box, the reply's box, whose row has m bytes. -/
def TbS (w0 x : World) (b : Nat) (t : Int) (q m : Nat) : Prop := ∃ (v : Value) (xs : List Value), x.ownsRow (b + 4) 5 1 v m xs ∧ (∀ u ∈ xs, ∃ z : Int, u = .int .u8 z) ∧ Box x (b + 3) (rpC t 0 v) ∧ Box x (b + 1) #[.int .i64 t, .int .i64 0, .int .i64 q, .int .i64 0, .int .i64 0] ∧ Box x (b + 2) (rpC 0 0 (.slice none 0 0)) ∧ Below w0.heap.size w0 x
theorem TbS.below {w0 x y : World} {b : Nat} {t : Int} {q m : Nat} (h : TbS w0 x b t q m) (hb : Below x.heap.size x y) : TbS w0 y b t q m := by
  obtain ⟨v, xs, h1, h0, h2, h3, h4, h5⟩ := h
  exact ⟨v, xs, own_below h1 hb (Nat.le_refl _), h0, h2.below hb, h3.below hb, h4.below hb, ext_trans h5 hb⟩
theorem made_u8 (n : Nat) : ∀ u ∈ (madeCells (Value.int IntKind.u8 0).cells n).toList, ∃ z : Int, u = .int .u8 z := by
  intro u hu
  obtain ⟨i, hi, rfl⟩ := List.getElem_of_mem hu
  exact ⟨0, by simp [madeCells, Value.cells, Nat.mod_one]⟩
set_option maxRecDepth 100000 in
set_option maxHeartbeats 8000000 in
theorem table_any (sup : Bool) (A : Option Addr) (n c : Nat) (rs : List Rg) (most t value : Int) (q : Nat) (w : World) (hr : Rd w w.heap.size 2 A n (rgCells rs)) (hn : n ≤ 40) (ht1 : 1 ≤ t) (ht4 : t ≤ 4) (hq1 : 1 ≤ q) (hq2 : q ≤ 2000) (hv1 : 0 ≤ value) (hv2 : value ≤ 65535) :
    Calls Try.prog 35 #[.agg #[.bool sup, .slice A n c, .int .i64 most], .agg #[.int .i64 t, .int .i64 0, .int .i64 q, .int .i64 0, .int .i64 0], .int .i64 value] w fun e w' => ∃ E dA dn dc, e = .returned (rpT t E dA dn dc) ∧ TabE sup most q E ∧ Below w.heap.size w w' := by
  obtain ⟨cb, hcb⟩ : ∃ r, rcovB rs (0, (q : Int)) = r := ⟨_, rfl⟩
  have HCV := Lib.hid (fun (W : World) (h : Below w.heap.size w W) => show Calls Try.prog 39 #[.slice A n c, .agg #[.int .i64 0, .int .i64 q]] W _ from rcovers_any rs A n c w.heap.size (0, (q : Int)) W (hr.below h (Nat.le_refl _)) (by omega) cb hcb)
  obtain ⟨b, hb⟩ : ∃ b, w.heap.size = b := ⟨_, rfl⟩
  have hbT := Box.alloc_ (w := w) (cs := #[.bool sup, .slice A n c, .int .i64 most]) (e := 51)
  have hb0 : Below w.heap.size w (((w.alloc (.cells #[.bool sup, .slice A n c, .int .i64 most] 51)).alloc (.cells #[.int .i64 t, .int .i64 0, .int .i64 q, .int .i64 0, .int .i64 0] 30)).alloc (.cells (rpC 0 0 (.slice none 0 0)) 43)) := (((Below.refl _ w).alloc (Nat.le_refl _) _).alloc (by simp) _).alloc (by simp; omega) _
  have hbT := (hbT.alloc' (.cells #[.int .i64 t, .int .i64 0, .int .i64 q, .int .i64 0, .int .i64 0] 30)).alloc' (.cells (rpC 0 0 (.slice none 0 0)) 43)
  have hbQ := (Box.alloc_ (w := w.alloc (.cells #[.bool sup, .slice A n c, .int .i64 most] 51)) (cs := #[.int .i64 t, .int .i64 0, .int .i64 q, .int .i64 0, .int .i64 0]) (e := 30)).alloc' (.cells (rpC 0 0 (.slice none 0 0)) 43)
  have hbR := Box.alloc_ (w := (w.alloc (.cells #[.bool sup, .slice A n c, .int .i64 most] 51)).alloc (.cells #[.int .i64 t, .int .i64 0, .int .i64 q, .int .i64 0, .int .i64 0] 30)) (cs := rpC 0 0 (.slice none 0 0)) (e := 43)
  have hsz : (((w.alloc (.cells #[.bool sup, .slice A n c, .int .i64 most] 51)).alloc (.cells #[.int .i64 t, .int .i64 0, .int .i64 q, .int .i64 0, .int .i64 0] 30)).alloc (.cells (rpC 0 0 (.slice none 0 0)) 43)).heap.size = b + 3 := by simp [hb]
  simp only [World.size_alloc] at hbQ hbR
  obtain ⟨W1, hW1⟩ : ∃ W, (((w.alloc (.cells #[.bool sup, .slice A n c, .int .i64 most] 51)).alloc (.cells #[.int .i64 t, .int .i64 0, .int .i64 q, .int .i64 0, .int .i64 0] 30)).alloc (.cells (rpC 0 0 (.slice none 0 0)) 43)) = W := ⟨_, rfl⟩
  rw [hW1] at hb0 hbT hbQ hbR hsz
  rw [hb] at hbT hbQ hbR
  have HT := Lib.hid hbT
  have HQ := Lib.hid hbQ
  have HRP := Lib.hid hbR
  have HB := Lib.hid hb0
  have HW1 := Lib.hid hW1
  have HSZ := Lib.hid hsz
  have HBB := Lib.hid hb
  clear hbT hbQ hbR hb0 hr hW1 hsz hcb hb
  go_enter Try.func35, Try.ntmps35
  go_upto_region 1 with fail
  try rw [HW1.out]
  try rw [HBB.out]
  have HP2 := Lib.hid (Box.alloc_ (w := W1) (cs := rpC t 0 (.slice none 0 0)) (e := 43))
  have hb1 : Below W1.heap.size W1 (W1.alloc (.cells (rpC t 0 (.slice none 0 0)) 43)) := (Below.refl _ _).alloc (Nat.le_refl _) _
  have HT2 := Lib.hid (HT.out.below hb1)
  have HQ2 := Lib.hid (HQ.out.below hb1)
  have HR2 := Lib.hid (HRP.out.below hb1)
  have HB2 := Lib.hid (ext_trans HB.out hb1)
  obtain ⟨qq, zq, lq⟩ := HQ.out
  have hsz := HSZ.out
  go_upto_region 2 with fail
  obtain ⟨W2, hW2⟩ : ∃ W, W1.alloc (.cells (rpC t 0 (.slice none 0 0)) 43) = W := ⟨_, rfl⟩
  rw [hsz] at HP2
  try rw [hsz]
  rw [hW2] at HP2 HT2 HQ2 HR2 HB2
  try rw [hW2]
  clear hW2 hb1 hsz qq zq lq
  obtain ⟨q0, z0, l0⟩ := HT2.out
  obtain ⟨q1, z1, l1⟩ := HQ2.out
  cases sup
  · -- not supported
    have HP4 := Lib.hid (HP2.out.set (k := 1) (v := .int .i64 1) (cs' := rpC t 1 (.slice none 0 0)) (by simp) rfl)
    have HR4 := Lib.hid (HR2.out.grown (one_set (one_refl W2 (b + 3)) 1 (.int .i64 1)) (by omega))
    have HB4 := Lib.hid (HB2.out.setCell (p := ⟨b + 3, 1, none⟩) (show w.heap.size ≤ b + 3 by have := HBB.out; omega) (.int .i64 1))
    obtain ⟨q6, z6, l6⟩ := HP2.out
    go_upto_region 8 with fail
    obtain ⟨W5, hW5⟩ : ∃ W, W2.setCell ⟨b + 3, 1, none⟩ (.int .i64 1) = W := ⟨_, rfl⟩
    rw [hW5] at HP4 HR4 HB4 ⊢
    clear hW5 q6 z6 l6
    have HP5 := HP4
    have HR5 := HR4
    have HB5 := HB4
    have HBz := Lib.hid (box_put8 HR5.out (.int .i64 t) (.int .i64 1) (.slice none 0 0) (.int .i64 0) (.int .i64 0) (.bool false) (.int .i64 0) (.slice none 0 0))
    have HWz := Lib.hid (below_put8 HB5.out (show w.heap.size ≤ b + 2 by have := HBB.out; omega) (.int .i64 t) (.int .i64 1) (.slice none 0 0) (.int .i64 0) (.int .i64 0) (.bool false) (.int .i64 0) (.slice none 0 0))
    obtain ⟨q7, z7, l7⟩ := HP5.out
    obtain ⟨q2, z2, l2⟩ := HR5.out
    go_wp2
    obtain ⟨qz, zz, lz⟩ := HBz.out
    exact bodyPost_ret (v := rpT t 1 none 0 0) (by simp [results, Try.results35, go_sem, qz, zz, lz]) rfl ⟨1, none, 0, 0, rfl, (.inl ⟨rfl, rfl⟩), HWz.out⟩
  · by_cases hm : most < (q : Int)
    · have d1 : decide (most < (q : Int)) = true := by simpa using hm
      have HP4 := Lib.hid (HP2.out.set (k := 1) (v := .int .i64 3) (cs' := rpC t 3 (.slice none 0 0)) (by simp) rfl)
      have HR4 := Lib.hid (HR2.out.grown (one_set (one_refl W2 (b + 3)) 1 (.int .i64 3)) (by omega))
      have HB4 := Lib.hid (HB2.out.setCell (p := ⟨b + 3, 1, none⟩) (show w.heap.size ≤ b + 3 by have := HBB.out; omega) (.int .i64 3))
      obtain ⟨q6, z6, l6⟩ := HP2.out
      go_upto_region 8 with fail
      obtain ⟨W5, hW5⟩ : ∃ W, W2.setCell ⟨b + 3, 1, none⟩ (.int .i64 3) = W := ⟨_, rfl⟩
      rw [hW5] at HP4 HR4 HB4 ⊢
      clear hW5 q6 z6 l6
      have HP5 := HP4
      have HR5 := HR4
      have HB5 := HB4
      have HBz := Lib.hid (box_put8 HR5.out (.int .i64 t) (.int .i64 3) (.slice none 0 0) (.int .i64 0) (.int .i64 0) (.bool false) (.int .i64 0) (.slice none 0 0))
      have HWz := Lib.hid (below_put8 HB5.out (show w.heap.size ≤ b + 2 by have := HBB.out; omega) (.int .i64 t) (.int .i64 3) (.slice none 0 0) (.int .i64 0) (.int .i64 0) (.bool false) (.int .i64 0) (.slice none 0 0))
      obtain ⟨q7, z7, l7⟩ := HP5.out
      obtain ⟨q2, z2, l2⟩ := HR5.out
      go_wp2
      obtain ⟨qz, zz, lz⟩ := HBz.out
      exact bodyPost_ret (v := rpT t 3 none 0 0) (by simp [results, Try.results35, go_sem, qz, zz, lz]) rfl ⟨3, none, 0, 0, rfl, (.inr (.inl ⟨rfl, hm, rfl⟩)), HWz.out⟩
    · have d1 : decide (most < (q : Int)) = false := by simpa using hm
      go_wp2_with fail
      refine (HCV.out _ HB2.out).mono ?_
      rintro e w3 ⟨rfl, hb3⟩
      have HP3 := Lib.hid (HP2.out.below hb3)
      have HQ3 := Lib.hid (HQ2.out.below hb3)
      have HR3 := Lib.hid (HR2.out.below hb3)
      have HB3 := Lib.hid (ext_trans HB2.out hb3)
      clear hb3 q0 z0 l0 q1 z1 l1
      cases cb
      · -- not covered
        have HP4 := Lib.hid (HP3.out.set (k := 1) (v := .int .i64 2) (cs' := rpC t 2 (.slice none 0 0)) (by simp) rfl)
        have HR4 := Lib.hid (HR3.out.grown (one_set (one_refl w3 (b + 3)) 1 (.int .i64 2)) (by omega))
        have HB4 := Lib.hid (HB3.out.setCell (p := ⟨b + 3, 1, none⟩) (show w.heap.size ≤ b + 3 by have := HBB.out; omega) (.int .i64 2))
        obtain ⟨q6, z6, l6⟩ := HP3.out
        go_upto_region 8 with fail
        obtain ⟨W5, hW5⟩ : ∃ W, w3.setCell ⟨b + 3, 1, none⟩ (.int .i64 2) = W := ⟨_, rfl⟩
        rw [hW5] at HP4 HR4 HB4 ⊢
        clear hW5 q6 z6 l6
        have HP5 := HP4
        have HR5 := HR4
        have HB5 := HB4
        have HBz := Lib.hid (box_put8 HR5.out (.int .i64 t) (.int .i64 2) (.slice none 0 0) (.int .i64 0) (.int .i64 0) (.bool false) (.int .i64 0) (.slice none 0 0))
        have HWz := Lib.hid (below_put8 HB5.out (show w.heap.size ≤ b + 2 by have := HBB.out; omega) (.int .i64 t) (.int .i64 2) (.slice none 0 0) (.int .i64 0) (.int .i64 0) (.bool false) (.int .i64 0) (.slice none 0 0))
        obtain ⟨q7, z7, l7⟩ := HP5.out
        obtain ⟨q2, z2, l2⟩ := HR5.out
        go_wp2
        obtain ⟨qz, zz, lz⟩ := HBz.out
        exact bodyPost_ret (v := rpT t 2 none 0 0) (by simp [results, Try.results35, go_sem, qz, zz, lz]) rfl ⟨2, none, 0, 0, rfl, (.inr (.inr ⟨rfl, by omega, .inr rfl⟩)), HWz.out⟩
      · have hb4 : b + 4 ≤ w3.heap.size := by have := HP3.out.2.2; omega
        have HWD := Lib.hid (fun (k : Nat) (hk : k < q) (W : World) => word_any t k value ht1 ht4 (by omega) (by omega) hv1 hv2 W)
        have HN4 := Lib.hid hb4
        obtain ⟨y1, zz1, ll1⟩ := HP3.out
        obtain ⟨y2, zz2, ll2⟩ := HQ3.out
        by_cases ht : t ≤ 2
        · obtain ⟨m, hm8⟩ : ∃ m, (q + 7) / 8 = m := ⟨_, rfl⟩
          have HM8 := Lib.hid hm8
          have d2 : decide (t ≤ 2) = true := by simpa using ht
          have e1 : IntKind.i64.wrap ((q : Int) + 7) = (q : Int) + 7 := IntWalk.i64_in _ ⟨by omega, by omega⟩
          obtain ⟨i0, hi, hz0, hz1, hz2⟩ := info_parts byteInfo
          have HI2 := Lib.hid hz2
          have hmb : m ≤ 251 := by omega
          clear hm8 hz2
          go_upto_region 11 with fail
          go_wp2_with (at_make; refine wpList_make_full _ rfl _ _ 40 rfl (b + 4) 5 i0 (.int .u8 0) 1 Try.underlying40 hi hz0 hz1 .i64 .i64 _ _ m rfl rfl (by have := HM8.out; first | omega | (rw [Int.tdiv_eq_ediv_of_nonneg (by omega)]; omega)) (by have := HM8.out; first | omega | (rw [Int.tdiv_eq_ediv_of_nonneg (by omega)]; omega)) (by rw [HI2.out]; omega) (by unfold maxLen; omega) HN4.out ?_; intro w4 hown4 hg4; have hb34 : Below w3.heap.size w3 w4 := ((Below.refl _ w3).grown hg4 (Nat.le_refl _) (fun k hk => by cases hk)); have HP4 := Lib.hid (HP3.out.below hb34); have HQ4 := Lib.hid (HQ3.out.below hb34); have HR4 := Lib.hid (HR3.out.below hb34); have HB4 := Lib.hid (ext_trans HB3.out hb34); have HO4 := Lib.hid hown4; clear hi hz0 hz1 y1 zz1 ll1 y2 zz2 ll2 hown4 hg4 hb34 hb4; obtain ⟨y1, zz1, ll1⟩ := HP4.out; obtain ⟨y2, zz2, ll2⟩ := HQ4.out)
          obtain ⟨v4, hv4⟩ : ∃ v, Value.slice (some ⟨w3.heap.size, 0, none⟩) m m = v := ⟨_, rfl⟩
          rw [hv4] at HO4
          have hxu : ∀ u ∈ (madeCells (Value.int IntKind.u8 0).cells (m * 1)).toList, ∃ z : Int, u = .int .u8 z := made_u8 (m * 1)
          have HTS := Lib.hid (show TbS w (w4.setCell ⟨b + 3, 2, none⟩ v4) b t q m from ⟨v4, _, ownsRow_setCell_below HO4.out (show b + 3 < b + 4 by omega) _, hxu, HP4.out.set (k := 2) (v := v4) (cs' := rpC t 0 v4) (by simp) rfl, HQ4.out.grown (one_set (one_refl w4 (b + 3)) 2 v4) (by omega), HR4.out.grown (one_set (one_refl w4 (b + 3)) 2 v4) (by omega), HB4.out.setCell (p := ⟨b + 3, 2, none⟩) (show w.heap.size ≤ b + 3 by have := HBB.out; omega) v4⟩)
          rw [← hv4] at HTS
          clear hxu hv4
          go_wp2_with fail
          go_loopw [8, 9] (fun i _ x => ∃ k : Nat, k ≤ q ∧ i = .int .i64 k ∧ TbS w x b t q m) (fun i _ _ => q - (intOf i).toNat)
          case atStart => exact ⟨0, by omega, rfl, HTS.out⟩
          case round =>
            obtain ⟨k, hk, rfl, hts⟩ := hrel
            have HTS := Lib.hid hts
            obtain ⟨v5, xs, hO5, hu5, hP5, hQ5, hR5, hB5⟩ := hts
            have HO5 := Lib.hid hO5
            have HU5 := Lib.hid hu5
            have HP5 := Lib.hid hP5
            have HQ5 := Lib.hid hQ5
            have HR5 := Lib.hid hR5
            have HB5 := Lib.hid hB5
            clear hO5 hu5 hP5 hQ5 hR5 hB5 y1 zz1 ll1 y2 zz2 ll2
            obtain ⟨y1, zz1, ll1⟩ := HP5.out
            obtain ⟨y2, zz2, ll2⟩ := HQ5.out
            by_cases hlt : k < q
            · have HWK := Lib.hid (HWD.out k hlt)
              have hkm : k / 8 < m := by have := HM8.out; omega
              obtain ⟨g, cap, rfl, hgb, hgl⟩ := HO5.out.form (by omega)
              obtain ⟨k8, hk8⟩ : ∃ z, k / 8 = z := ⟨_, rfl⟩
              obtain ⟨kr, hkr⟩ : ∃ z, k % 8 = z := ⟨_, rfl⟩
              rw [hk8] at hkm
              have hlen : xs.length = m := by have := HO5.out.1; omega
              obtain ⟨z5, hz5⟩ := HU5.out (xs[k8]'(by omega)) (List.getElem_mem _)
              have c5 : wr.cell? ⟨g, k8, none⟩ = some (.int .u8 z5) := by rw [HO5.out.cellAt _ (by omega), List.getElem?_eq_getElem (by omega), hz5]
              have dz : ∀ i, wr.frozen? ⟨g, i, none⟩ = false := fun i => HO5.out.frozenAt i
              go_wp2_with fail
              refine (HWK.out _).mono ?_
              rintro e w' ⟨x, rfl, hx1, hx2, rfl⟩
              have d3 : decide (3 ≤ t) = false := by simp; omega
              have f1 : Int.tdiv (k : Int) 8 = (k8 : Int) := by rw [Int.tdiv_eq_ediv_of_nonneg (by omega)]; omega
              have f2 : Int.tmod (k : Int) 8 = (kr : Int) := by rw [Int.tmod_eq_emod_of_nonneg (by omega)]; omega
              have f3 : (k : Int) / 8 = (k8 : Int) := by omega
              have f4 : (k : Int) % 8 = (kr : Int) := by omega
              have hkr8 : kr < 8 := by omega
              have HK8 := Lib.hid hk8
              have HKR := Lib.hid hkr
              clear hk8 hkr hz5
              by_cases hxo : x % 2 = 1
              · have f5 : (x % 2 == 1) = true := by simpa using hxo
                have f6 : (Int.tmod x 2 == 1) = true := by rw [Int.tmod_eq_emod_of_nonneg hx1]; exact f5
                go_upto_region 19 with fail
                go_wp2_with fail
                go_roundw
                case rel =>
                  refine ⟨k + 1, by omega, by go_num, _, _, (HO5.out.stored k8 _).1, ?_, HP5.out.grown (one_set (one_refl wr g) k8 _) (by omega), HQ5.out.grown (one_set (one_refl wr g) k8 _) (by omega), HR5.out.grown (one_set (one_refl wr g) k8 _) (by omega), HB5.out.setCell (p := ⟨g, k8, none⟩) (by show w.heap.size ≤ g; have := HBB.out; omega) _⟩
                  intro u hu
                  rcases List.mem_or_eq_of_mem_set hu with h | h
                  · exact HU5.out u h
                  · exact ⟨_, h⟩
                case measure => simp [intOf]; omega
              · have f5 : (x % 2 == 1) = false := by simpa using hxo
                have f6 : (Int.tmod x 2 == 1) = false := by rw [Int.tmod_eq_emod_of_nonneg hx1]; exact f5
                go_wp2_with fail
                go_roundw
                case rel => exact ⟨k + 1, by omega, by go_num, HTS.out⟩
                case measure => simp [intOf]; omega
            · obtain rfl : k = q := by omega
              obtain ⟨dA, dc, rfl, _, _⟩ := own_form HO5.out
              have HBz := Lib.hid (box_put8 HR5.out (.int .i64 t) (.int .i64 0) (.slice dA m dc) (.int .i64 0) (.int .i64 0) (.bool false) (.int .i64 0) (.slice none 0 0))
              have HWz := Lib.hid (below_put8 HB5.out (show w.heap.size ≤ b + 2 by have := HBB.out; omega) (.int .i64 t) (.int .i64 0) (.slice dA m dc) (.int .i64 0) (.int .i64 0) (.bool false) (.int .i64 0) (.slice none 0 0))
              obtain ⟨q7, z7, l7⟩ := HP5.out
              obtain ⟨q2, z2, l2⟩ := HR5.out
              go_wp2
              obtain ⟨qz, zz, lz⟩ := HBz.out
              exact bodyPost_ret (v := rpT t 0 dA m dc) (by simp [results, Try.results35, go_sem, qz, zz, lz]) rfl ⟨0, dA, m, dc, rfl, .inr (.inr ⟨rfl, hm, .inl rfl⟩), HWz.out⟩
        · have d2 : decide (t ≤ 2) = false := by simpa using ht
          have d3 : decide (3 ≤ t) = true := by simp; omega
          have HTS := Lib.hid (show TbS w w3 b t q (2 * 0) from ⟨.slice none 0 0, [], World.ownsRow_nil _ _ _ _, (fun u hu => by cases hu), HP3.out, HQ3.out, HR3.out, HB3.out⟩)
          go_wp2_with fail
          go_loopw [8, 9] (fun i _ x => ∃ k : Nat, k ≤ q ∧ i = .int .i64 k ∧ TbS w x b t q (2 * k)) (fun i _ _ => q - (intOf i).toNat)
          case atStart => exact ⟨0, by omega, rfl, HTS.out⟩
          case round =>
            obtain ⟨k, hk, rfl, hts⟩ := hrel
            obtain ⟨v5, xs, hO5, hu5, hP5, hQ5, hR5, hB5⟩ := hts
            have HO5 := Lib.hid hO5
            have HU5 := Lib.hid hu5
            have HP5 := Lib.hid hP5
            have HQ5 := Lib.hid hQ5
            have HR5 := Lib.hid hR5
            have HB5 := Lib.hid hB5
            clear hO5 hu5 hP5 hQ5 hR5 hB5 y1 zz1 ll1 y2 zz2 ll2
            by_cases hlt : k < q
            · have HWK := Lib.hid (HWD.out k hlt)
              obtain ⟨A5, c5, rfl, _, _⟩ := own_form HO5.out
              obtain ⟨y1, zz1, ll1⟩ := HP5.out
              obtain ⟨y2, zz2, ll2⟩ := HQ5.out
              go_wp2_with fail
              refine (HWK.out _).mono ?_
              rintro e w' ⟨x, rfl, hx1, hx2, rfl⟩
              go_upto_region 17 with fail
              go_wp2_with (at_builtin; refine wpList_appN (.tmp 67) (.tmp 74) 40 (b + 4) 5 _ 1 1 _ (2 * k) xs (wr.heap.size + 1) (some ⟨wr.heap.size, 0, none⟩) 2 2 _ Try.underlying40 byteInfo rfl (by decide) rfl rfl rfl rfl (HO5.out.alloc _) (Rd.lit rfl (Nat.lt_succ_self _)) (by simp [Value.oneCell']) (by omega) (by omega) (by simp; omega) ?_; intro v1 w1 hown1 hg1 hn1 hb1; obtain ⟨A1, c1, hv1, _, _⟩ := own_form hown1; subst hv1; have hne : some (b + 3) ≠ (Value.slice A5 (2 * k) c5).ownBlock := (fun e => by have := (HO5.out.lt (b + 3) e.symm).1; omega); have hne1 : some (b + 1) ≠ (Value.slice A5 (2 * k) c5).ownBlock := (fun e => by have := (HO5.out.lt (b + 1) e.symm).1; omega); have hne2 : some (b + 1 + 1) ≠ (Value.slice A5 (2 * k) c5).ownBlock := (fun e => by have := (HO5.out.lt (b + 1 + 1) e.symm).1; omega); have HP6 := Lib.hid ((HP5.out.alloc' _).row hg1 hne); have HQ6 := Lib.hid ((HQ5.out.alloc' _).row hg1 hne1); have HR6 := Lib.hid ((HR5.out.alloc' _).row hg1 hne2); have HB6 := Lib.hid ((HB5.out.alloc HB5.out.size _).trans (hb1.mono (show w.heap.size ≤ b + 4 by have := HBB.out; omega))); have HO6 := Lib.hid hown1; clear hown1 hg1 hn1 hb1 hne hne1 hne2 y1 zz1 ll1 y2 zz2 ll2; obtain ⟨y1, zz1, ll1⟩ := HP6.out)
              go_roundw
              case rel =>
                refine ⟨k + 1, by omega, by go_num, _, _, ownsRow_setCell_below HO6.out (show b + 3 < b + 4 by omega) _, ?_, HP6.out.set (k := 2) (cs' := rpC t 0 _) (by simp) rfl, HQ6.out.grown (one_set (one_refl w1 (b + 3)) 2 _) (by omega), HR6.out.grown (one_set (one_refl w1 (b + 3)) 2 _) (by omega), HB6.out.setCell (p := ⟨b + 3, 2, none⟩) (show w.heap.size ≤ b + 3 by have := HBB.out; omega) _⟩
                intro u hu
                rcases List.mem_append.1 hu with h | h
                · exact HU5.out u h
                · simp only [List.mem_cons, List.not_mem_nil, or_false] at h
                  rcases h with h | h <;> exact ⟨_, h⟩
              case measure => simp [intOf]; omega
            · obtain rfl : k = q := by omega
              obtain ⟨y2, zz2, ll2⟩ := HQ5.out
              obtain ⟨dA, dc, rfl, _, _⟩ := own_form HO5.out
              have HBz := Lib.hid (box_put8 HR5.out (.int .i64 t) (.int .i64 0) (.slice dA (2 * k) dc) (.int .i64 0) (.int .i64 0) (.bool false) (.int .i64 0) (.slice none 0 0))
              have HWz := Lib.hid (below_put8 HB5.out (show w.heap.size ≤ b + 2 by have := HBB.out; omega) (.int .i64 t) (.int .i64 0) (.slice dA (2 * k) dc) (.int .i64 0) (.int .i64 0) (.bool false) (.int .i64 0) (.slice none 0 0))
              obtain ⟨q7, z7, l7⟩ := HP5.out
              obtain ⟨q2, z2, l2⟩ := HR5.out
              go_wp2
              obtain ⟨qz, zz, lz⟩ := HBz.out
              exact bodyPost_ret (v := rpT t 0 dA (2 * k) dc) (by simp [results, Try.results35, go_sem, qz, zz, lz]) rfl ⟨0, dA, 2 * k, dc, rfl, .inr (.inr ⟨rfl, hm, .inl rfl⟩), HWz.out⟩
end Go.Proofs.Ytipcnpnfdoainaa

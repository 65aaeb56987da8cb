/- The reference's Answer to a request of the identification. -/
import Derived.Test.YtpbmolijoadonaaSlL
set_option linter.unusedVariables false
set_option linter.unusedSimpArgs false
namespace Go.Proofs.Ytpbmolijoadonaa
open Go.RowKit

set_option maxHeartbeats 4000000 in
theorem rqvalid43 (ask : Int) (h1 : 0 ≤ ask) (h2 : ask ≤ 255) (w : World) : Calls Try.prog 32 #[sqv 43 0 0 3 ask] w fun e w' => e = .returned (.bool true) ∧ Below w.heap.size w w' := by
  have d1 : decide (0 ≤ ask) = true := by simpa using h1
  have d2 : decide (ask ≤ 255) = true := by simpa using h2
  go_enter Try.func32, Try.ntmps32
  go_wp2
  go_ret
  exact ⟨rfl, (Below.refl _ _).alloc (Nat.le_refl _) _⟩
/-- The reply of Answer. -/
def AnsOk (w w' : World) (S : Sl) (ask : Int) (e : Ending) : Prop :=
  (S.lv = 0 ∧ Below w.heap.size w w' ∧ e = .returned (.agg #[.int .i64 43, .int .i64 1, .slice none 0 0, .int .i64 0, .int .i64 0, .bool false, .int .i64 0, .slice none 0 0])) ∨ (S.lv ≠ 0 ∧ DevOk w w' S ask e)
theorem device_any (S : Sl) (ask : Int) (w : World) (hok : S.ok w w.heap.size) (hsl : slB S = true) (ha : 0 ≤ ask ∧ ask ≤ 255) :
    Calls Try.prog 34 #[slV S, sqv 43 0 0 3 ask] w fun e w' => AnsOk w w' S ask e := by
  by_cases h0 : S.lv = 0
  · refine (device_none S ask w h0).mono ?_
    rintro e w' ⟨rfl, hb⟩
    exact .inl ⟨h0, hb, rfl⟩
  · refine (device_some S ask w hok ((slB_of hsl).2.2.2.resolve_left h0) h0 ha).mono ?_
    intro e w' h
    exact .inr ⟨h0, h⟩
/-- The reply is copied into the result's cells. -/
theorem AnsOk.open_ {w w' : World} {S : Sl} {ask : Int} {e : Ending} (h : AnsOk w w' S ask e) :
    ∃ (E C L N : Int) (M : Bool) (A : Option Addr) (n c : Nat), e = .returned (.agg #[.int .i64 43, .int .i64 E, .slice none 0 0, .int .i64 C, .int .i64 L, .bool M, .int .i64 N, .slice A n c]) ∧ Below w.heap.size w w' ∧
      ∀ (w0 x : World), w0.heap.size ≤ w.heap.size → Below w0.heap.size w0 x → (∀ (sz k : Nat) (B : Option Addr) (xs : List Value), (∀ b off, B = some ⟨b, off, none⟩ → w.heap.size ≤ b) → Rd w' w'.heap.size sz B k xs → Rd x x.heap.size sz B k xs) → AnsOk w0 x S ask e := by
  rcases h with ⟨h0, hb, rfl⟩ | ⟨h0, hb, ⟨hf, rfl⟩ | ⟨hf, os, A, c, rfl, h1, h2, h3, h4, h5⟩⟩
  · exact ⟨1, 0, 0, 0, false, none, 0, 0, rfl, hb, fun w0 x _ hx _ => .inl ⟨h0, hx, rfl⟩⟩
  · exact ⟨2, 0, 0, 0, false, none, 0, 0, rfl, hb, fun w0 x _ hx _ => .inr ⟨h0, hx, .inl ⟨hf, rfl⟩⟩⟩
  · refine ⟨0, 3, _, _, _, A, os.length, c, rfl, hb, fun w0 x hs hx hm => .inr ⟨h0, hx, .inr ⟨hf, os, A, c, rfl, h1, h2, hm _ _ _ _ h4 h3, fun b off e => Nat.le_trans hs (h4 b off e), fun o ho => ⟨hm _ _ _ _ (h5 o ho).2 (h5 o ho).1, fun b off e => Nat.le_trans hs ((h5 o ho).2 b off e)⟩⟩⟩⟩
set_option maxRecDepth 100000 in
set_option maxHeartbeats 8000000 in
theorem answer43 (S : Sl) (ask value : Int) (w : World) (hok : S.ok w w.heap.size) (hs1 : ∀ k, k < 4 → (S.tb k).n ≤ 40) (hs2 : S.on_ ≤ 40) (hs3 : S.sn ≤ 80) (hsl : slB S = true) (ha : 0 ≤ ask ∧ ask ≤ 255) (hv1 : 0 ≤ value) (hv2 : value ≤ 65535) :
    Calls Try.prog 21 #[slV S, sqv 43 0 0 3 ask, .int .i64 value] w fun e w' => AnsOk w w' S ask e := by
  have hbS := Box.alloc_ (w := w) (cs := slCells S) (e := 59)
  have hb0 : Below w.heap.size w (((w.alloc (.cells (slCells S) 59)).alloc (.cells #[.int .i64 43, .int .i64 0, .int .i64 0, .int .i64 3, .int .i64 ask] 32)).alloc (.cells #[.int .i64 0, .int .i64 0, .slice none 0 0, .int .i64 0, .int .i64 0, .bool false, .int .i64 0, .slice none 0 0] 42)) := ((((Below.refl _ _).alloc (Nat.le_refl _) _)).alloc (by simp) _).alloc (by simp; omega) _
  have hbS := (hbS.alloc' (.cells #[.int .i64 43, .int .i64 0, .int .i64 0, .int .i64 3, .int .i64 ask] 32)).alloc' (.cells #[.int .i64 0, .int .i64 0, .slice none 0 0, .int .i64 0, .int .i64 0, .bool false, .int .i64 0, .slice none 0 0] 42)
  have hbQ := (Box.alloc_ (w := w.alloc (.cells (slCells S) 59)) (cs := #[.int .i64 43, .int .i64 0, .int .i64 0, .int .i64 3, .int .i64 ask]) (e := 32)).alloc' (.cells #[.int .i64 0, .int .i64 0, .slice none 0 0, .int .i64 0, .int .i64 0, .bool false, .int .i64 0, .slice none 0 0] 42)
  have hbR := Box.alloc_ (w := (w.alloc (.cells (slCells S) 59)).alloc (.cells #[.int .i64 43, .int .i64 0, .int .i64 0, .int .i64 3, .int .i64 ask] 32)) (cs := #[.int .i64 0, .int .i64 0, .slice none 0 0, .int .i64 0, .int .i64 0, .bool false, .int .i64 0, .slice none 0 0]) (e := 42)
  simp only [World.size_alloc] at hbQ hbR
  obtain ⟨W1, hW1⟩ : ∃ W, (((w.alloc (.cells (slCells S) 59)).alloc (.cells #[.int .i64 43, .int .i64 0, .int .i64 0, .int .i64 3, .int .i64 ask] 32)).alloc (.cells #[.int .i64 0, .int .i64 0, .slice none 0 0, .int .i64 0, .int .i64 0, .bool false, .int .i64 0, .slice none 0 0] 42)) = W := ⟨_, rfl⟩
  rw [hW1] at hb0 hbS hbQ hbR
  have HS := Lib.hid hbS
  have HQ := Lib.hid hbQ
  have HRP := Lib.hid hbR
  have HB := Lib.hid hb0
  have HW1 := Lib.hid hW1
  have HOKW := Lib.hid (fun (W : World) (h : Below w.heap.size w W) => show S.ok W W.heap.size from ⟨fun k hk => ((hok.1 k hk).below h (Nat.le_refl _)).more h.size, (hok.2.1.below h (Nat.le_refl _)).more h.size, fun o ho => ⟨((hok.2.2.1 o ho).1.below h (Nat.le_refl _)).more h.size, (hok.2.2.1 o ho).2⟩, (hok.2.2.2.below h (Nat.le_refl _)).more h.size⟩)
  have HSV := Lib.hid (fun (W : World) (h : Below w.heap.size w W) => slave_any S W (HOKW.out W h) hs1 hs2 hs3 true hsl)
  have HDV := Lib.hid (fun (W : World) (h : Below w.heap.size w W) => device_any S ask W (HOKW.out W h) hsl ha)
  have HRQ := Lib.hid (fun (W : World) => rqvalid43 ask ha.1 ha.2 W)
  have d1 : decide (value < 0) = false := by simp; omega
  have d2 : decide (65535 < value) = false := by simp; omega
  clear hbS hbQ hbR hb0 hok hs1 hs2 hs3 hsl hv1 hv2 hW1 ha
  go_enter Try.func21, Try.ntmps21
  go_upto_region 1 with fail
  try rw [HW1.out]
  have HLD := Lib.hid (lds_of S w.heap.size W1 HS.out.1)
  obtain ⟨qq, zq, lq⟩ := HQ.out
  go_wp2_with (refine wpList_ldS w.heap.size (slV S) (.tmp 3) HLD.out rfl rfl (by rfl) ?_)
  refine (HSV.out _ HB.out).mono ?_
  rintro e w2 ⟨rfl, hb2⟩
  have HS2 := Lib.hid (HS.out.below hb2)
  have HQ2 := Lib.hid (HQ.out.below hb2)
  have HR2 := Lib.hid (HRP.out.below hb2)
  have HB2 := Lib.hid (ext_trans HB.out hb2)
  clear hb2 qq zq lq
  obtain ⟨qq, zq, lq⟩ := HQ2.out
  go_wp2_with fail
  refine (HRQ.out _).mono ?_
  rintro e w3 ⟨rfl, hb3⟩
  have HS3 := Lib.hid (HS2.out.below hb3)
  have HQ3 := Lib.hid (HQ2.out.below hb3)
  have HR3 := Lib.hid (HR2.out.below hb3)
  have HB3 := Lib.hid (ext_trans HB2.out hb3)
  have HLD3 := Lib.hid (lds_of S w.heap.size w3 HS3.out.1)
  clear hb3 qq zq lq
  obtain ⟨qq, zq, lq⟩ := HQ3.out
  go_wp2_with (refine wpList_ldS w.heap.size (slV S) (.tmp 3) HLD3.out rfl rfl (by rfl) ?_)
  refine (HDV.out _ HB3.out).mono ?_
  intro e w4 hans
  obtain ⟨E, C, L, N, M, A, n, c, rfl, hb4, hmv⟩ := hans.open_
  have HR4 := Lib.hid (HR3.out.below hb4)
  have HB4 := Lib.hid (ext_trans HB3.out hb4)
  have HMV := Lib.hid hmv
  have HSZ := Lib.hid (show w.heap.size + 2 < w3.heap.size from HR3.out.2.2)
  clear hans hb4 hmv qq zq lq
  have HBz := Lib.hid (box_put8 HR4.out (.int .i64 43) (.int .i64 E) (.slice none 0 0) (.int .i64 C) (.int .i64 L) (.bool M) (.int .i64 N) (.slice A n c))
  have HWz := Lib.hid (below_put8 HB4.out (show w.heap.size ≤ w.heap.size + 1 + 1 by omega) (.int .i64 43) (.int .i64 E) (.slice none 0 0) (.int .i64 C) (.int .i64 L) (.bool M) (.int .i64 N) (.slice A n c))
  obtain ⟨qr, zr, lr⟩ := HR4.out
  go_wp2
  obtain ⟨qz, zz, lz⟩ := HBz.out
  refine bodyPost_ret (v := .agg #[.int .i64 43, .int .i64 E, .slice none 0 0, .int .i64 C, .int .i64 L, .bool M, .int .i64 N, .slice A n c]) (by simp [results, Try.results21, go_sem, qz, zz, lz]) rfl (HMV.out w _ (by have := HSZ.out; omega) HWz.out (fun sz k B xs hlo hr => rd_put8 hr (fun b off e e2 => by injection e2 with e2; have := hlo b off e; have := HSZ.out; omega) _ _ _ _ _ _ _ _))
end Go.Proofs.Ytpbmolijoadonaa

/- Layer 4: the chapter's example, the law RunsOf. -/
import Derived.Test.YtjbbkhoonenfjaaRunW
import Derived.Test.YtjbbkhoonenfjaaOpen
set_option linter.unusedVariables false
set_option linter.unusedSimpArgs false
namespace Go.Proofs.Ytjbbkhoonenfjaa
open Go.RowKit

theorem RetL.open_ {w w' : World} {rs : List (Rn Int)} {e : Ending} (n : Nat) (hn : rs.length = n) (h : RetL w rs e w') : ∃ A c, e = .returned (lv A n c) ∧ Rd w' w'.heap.size 2 A n (rnCells rs) ∧ Below w.heap.size w w' := by
  obtain ⟨A, n', c, he, hR, hb⟩ := h
  obtain rfl : n' = n := by rw [← hn]; exact hR.rlen.symm
  exact ⟨A, c, he, hR, hb⟩

set_option maxRecDepth 100000 in
set_option maxHeartbeats 1000000 in
theorem awake_any (w : World) : Calls Try.prog 11 #[] w fun e w' => e = .returned (.bool true) ∧ Below w.heap.size w w' := by
  have HN := Lib.hid (new_any 5 1 w (by omega))
  have e1 : newL 5 1 = [(5, 1)] := by decide
  rw [e1] at HN
  have HS := Lib.hid (fun (A : Option Addr) (c : Nat) (W : World) (hr : Rd W W.heap.size 2 A 1 (rnCells [(5, 1)])) => set_any [(5, 1)] A 1 c _ 1 2 7 W hr (by omega) (by decide) (by omega) (by omega) (by omega) (by omega))
  have e2 : setL [(5, 1)] (clipL 1 2 (tot [((5, 1) : Rn Int)])).1 (clipL 1 2 (tot [((5, 1) : Rn Int)])).2 7 = [(1, 1), (2, 7), (2, 1)] := by decide +kernel
  rw [e2] at HS
  clear e1 e2
  go_enter Try.func11, Try.ntmps11
  go_wp2_with fail
  refine HN.out.mono ?_
  intro e w1 h
  obtain ⟨A1, c1, rfl, hR1, hb1⟩ := h.open_ 1 rfl
  clear h
  go_wp2_with fail
  refine (HS.out A1 c1 w1 hR1).mono ?_
  intro e w2 h
  obtain ⟨A2, c2, rfl, hR2, hb2⟩ := h.open_ 3 rfl
  have hbw := ext_trans hb1 hb2
  have HR2 := Lib.hid (hR2.alloc' (.cells #[.slice A2 3 c2] 38) (Nat.le_refl _))
  clear h hR1 hb1 hb2 hR2 HN HS
  go_wp2_with fail
  refine (runs_any A2 3 c2 _ _ _ HR2.out (by omega)).mono ?_
  rintro e w3 ⟨v3, rfl, hown3, hb3⟩
  obtain ⟨A3, c3, rfl, _, hR3⟩ := own_form hown3
  obtain ⟨b, off, rfl, _, hk0, x0, x1⟩ := rn_cells hR3 0 (by omega)
  obtain ⟨_, _, e1, _, hk1, y0, y1⟩ := rn_cells hR3 1 (by omega)
  obtain ⟨rfl, rfl⟩ : b = _ ∧ off = _ := by injection e1 with e1; injection e1 with e1 e2; exact ⟨e1, e2⟩
  obtain ⟨_, _, e2, _, hk2, z0, z1⟩ := rn_cells hR3 2 (by omega)
  obtain ⟨rfl, rfl⟩ : b = _ ∧ off = _ := by injection e2 with e1; injection e1 with e1 e2; exact ⟨e1, e2⟩
  simp at x0 x1 y0 y1 z0 z1
  obtain ⟨q1, zz, l1⟩ := Box.new hb3
  have HL := Lib.hid (len_any _ A2 3 c2 _ w3 (HR2.out.below hb3 (by simp)) (by omega) 5 rfl (by omega))
  have hbw3 := ext_alloc' hbw (by simpa using hb3)
  clear hb3 hown3 hR3 e1 e2 hk0 hk1 hk2
  go_wp2_with fail
  refine HL.out.mono ?_
  rintro e w4 ⟨rfl, hb4⟩
  go_wp2
  go_ret
  exact ⟨rfl, ext_trans hbw3 hb4⟩

set_option maxRecDepth 100000 in
set_option maxHeartbeats 1000000 in
theorem lawOf_any (l : List Int) (A : Option Addr) (n c : Nat) (w : World) (hr : Rd w w.heap.size 1 A n (i64s l)) (hm : n ≤ maxLen) :
    Calls Try.prog 7 #[.slice A n c] w fun e w' => e = .returned (.bool true) ∧ Below w.heap.size w w' := by
  obtain ⟨vs, hv⟩ : ∃ vs, vals l = vs := ⟨_, rfl⟩
  obtain ⟨m, hvm⟩ : ∃ m, vs.length = m := ⟨_, rfl⟩
  have hm40 : m ≤ 40 := by rw [← hvm, ← hv, vals]; simp; omega
  obtain ⟨rs, hrs⟩ : ∃ rs, ofL vs = rs := ⟨_, rfl⟩
  have hsp := ofL_spec vs
  have hln := ofL_length vs
  rw [hrs] at hsp hln
  obtain ⟨rn, hrn⟩ : ∃ rn, rs.length = rn := ⟨_, rfl⟩
  have HV := Lib.hid (values_any l A n c _ w hr hm vs hv m hvm)
  have HO := Lib.hid (fun (W : World) (A : Option Addr) (c : Nat) (h : Rd W W.heap.size 1 A m (i64s vs)) => of_any vs A m c _ W h (by omega))
  rw [hrs] at HO
  have HI := Lib.hid (fun (A A2 : Option Addr) (c c2 B B2 : Nat) (W : World) (h1 : Rd W B 2 A rn (rnCells rs)) (h2 : Rd W B2 1 A2 m (i64s vs)) => is_any rs vs A A2 rn c B m c2 B2 W h1 h2 hsp.1 hsp.2 (by omega) (by omega))
  have HRN := Lib.hid hrn
  clear hr hv hvm hrs hsp hrn hln
  go_enter Try.func7, Try.ntmps7
  go_wp2_with fail
  refine HV.out.mono ?_
  rintro e w1 ⟨A1, c1, rfl, hown1, hb1⟩
  have hR1 := Rd.of_own hown1
  clear hown1
  go_wp2_with fail
  refine (awake_any _).mono ?_
  rintro e w2 ⟨rfl, hb2⟩
  have hR2 := (hR1.below hb2 (Nat.le_refl _)).more hb2.size
  have hbw2 := ext_trans hb1 hb2
  clear hR1 hb1 hb2
  go_wp2_with fail
  refine (HO.out _ _ _ hR2).mono ?_
  intro e w3 h
  obtain ⟨A3, c3, rfl, hR3, hb3⟩ := h.open_ rn HRN.out
  have hbw3 := ext_trans hbw2 hb3
  have hR2' := hR2.below hb3 (Nat.le_refl _)
  clear h hR2 hb3 hbw2
  go_wp2_with fail
  refine (HI.out _ _ _ _ _ _ _ hR3 hR2').mono ?_
  rintro e w4 ⟨rfl, hb4⟩
  go_wp2
  go_ret
  exact ⟨rfl, ext_trans hbw3 hb4⟩
theorem lawOfI (l : List Int) (A : Option Addr) (c : Nat) (w : World) (hr : Rd w w.heap.size 1 A l.length (l.map fun x => [Value.int .i64 x]).flatten) (hlc : l.length ≤ c) (hc : c ≤ maxLen) :
    Calls Try.prog 7 #[.slice A l.length c] w fun e w' => e = .returned (.bool true) ∧ Below w.heap.size w w' :=
  lawOf_any l A _ c w (by rwa [flatten_one] at hr) (by omega)
end Go.Proofs.Ytjbbkhoonenfjaa

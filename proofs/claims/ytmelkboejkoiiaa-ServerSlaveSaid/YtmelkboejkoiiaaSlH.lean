/- The walk of ServerSlave. -/
import Derived.Test.YtmelkboejkoiiaaSlG
import Derived.Test.YtmelkboejkoiiaaServerL
import Derived.Test.YtmelkboejkoiiaaMake
import Derived.Test.YtmelkboejkoiiaaRegX
set_option linter.unusedVariables false
set_option linter.unusedSimpArgs false
namespace Go.Proofs.Ytmelkboejkoiiaa
open Go.RowKit

theorem istab17 (w : World) : Calls Try.prog 27 #[.int .i64 17] w fun e w' => e = .returned (.bool false) ∧ w = w' := by
  go_enter Try.func27, Try.ntmps27
  go_wp2
  go_ret
  exact ⟨rfl, rfl⟩
set_option maxHeartbeats 2000000 in
theorem valid17 (w : World) : Calls Try.prog 16 #[qv 17 0 0 0 0] w fun e w' => e = .returned (.bool true) ∧ Below w.heap.size w w' := by
  go_enter Try.func16, Try.ntmps16
  go_wp2_with fail
  refine (istab17 _).mono ?_
  rintro e w' ⟨rfl, rfl⟩
  go_wp2
  go_ret
  exact ⟨rfl, (Below.refl _ _).alloc (Nat.le_refl _) _⟩
theorem sl_fold (S : Sl) : Array.foldl (fun (cs : Array Value) (x : Value × Nat) => cs.setIfInBounds x.2 x.1)
          #[Value.int IntKind.i64 0, Value.int IntKind.i64 0, Value.int IntKind.i64 0, Value.bool false,
            Value.slice none 0 0, Value.int IntKind.i64 0, Value.bool false, Value.slice none 0 0,
            Value.int IntKind.i64 0, Value.bool false, Value.slice none 0 0, Value.int IntKind.i64 0, Value.bool false,
            Value.slice none 0 0, Value.int IntKind.i64 0, Value.int IntKind.i64 0, Value.slice none 0 0,
            Value.bool false, Value.slice none 0 0]
          ((slCells S).zipIdx 0) 0 19 = slCells S := by
  unfold slCells
  simp
theorem slSmall_of {S : Sl} (h : slSmall S = true) (hl : S.obs.length = S.on_) : S.sn ≤ 80 ∧ S.on_ ≤ 40 ∧ ∀ k, k < 4 → (S.tb k).n ≤ 40 := by
  simp only [slSmall, objSmall, Bool.and_eq_true, decide_eq_true_eq, all4_iff] at h
  exact ⟨h.1.2, by omega, h.2⟩
set_option maxRecDepth 100000 in
set_option maxHeartbeats 8000000 in
theorem slaveLaw_any (S : Sl) (value0 : Int) (w : World) (hok : S.ok w w.heap.size) (hm : S.on_ ≤ maxLen) :
    Calls Try.prog 5 #[slV S, .int .i64 value0] w fun e w' => e = .returned (.bool true) ∧ Below w.heap.size w w' := by
  obtain ⟨sm, hsm⟩ : ∃ z, slSmall S = z := ⟨_, rfl⟩
  have HSM := Lib.hid hsm
  have HOK := Lib.hid hok
  have HM := Lib.hid hm
  have hbS := Box.alloc_ (w := w) (cs := slCells S) (e := 42)
  have hb0 : Below w.heap.size w (w.alloc (.cells (slCells S) 42)) := (Below.refl _ _).alloc (Nat.le_refl _) _
  obtain ⟨W1, hW1⟩ : ∃ W, w.alloc (.cells (slCells S) 42) = W := ⟨_, rfl⟩
  obtain ⟨g, hg⟩ : ∃ g, w.heap.size = g := ⟨_, rfl⟩
  rw [hW1, hg] at hbS
  rw [hW1] at hb0
  have HS := Lib.hid hbS
  have HB := Lib.hid hb0
  have HW1 := Lib.hid hW1
  have HG := Lib.hid hg
  clear hsm hok hm hbS hb0 hW1 hg
  go_enter Try.func5, Try.ntmps5
  go_upto_region 1 with fail
  try rw [HW1.out]
  try rw [HG.out]
  have HLD := Lib.hid (lds_of S g W1 HS.out.1)
  have hsz : (slCells S).size = 19 := rfl
  go_wp2_with (refine wpList_ldS g (slV S) (.tmp 2) HLD.out rfl rfl (by rfl) ?_)
  rw [sl_fold]
  clear hsz
  have hb2 : Below W1.heap.size W1 (W1.alloc (.cells (slCells S) 42)) := (Below.refl _ _).alloc (Nat.le_refl _) _
  have HS2 := Lib.hid (HS.out.below hb2)
  have HB2 := Lib.hid (ext_trans HB.out hb2)
  have HSA := Lib.hid (slaves_any S W1.heap.size 1 (W1.alloc (.cells (slCells S) 42)) Box.alloc_ ((HOK.out.2.1.below HB2.out (Nat.le_refl _)).more HB2.out.size) HM.out sm HSM.out)
  obtain ⟨W2, hW2⟩ : ∃ W, W1.alloc (.cells (slCells S) 42) = W := ⟨_, rfl⟩
  rw [hW2] at HS2 HB2 HSA
  rw [hW2]
  clear hb2 hW2
  refine HSA.out.mono ?_
  rintro e w' ⟨rfl, rfl⟩
  clear HSA
  cases sm
  · go_wp2_with fail
    refine (awake_any _).mono ?_
    rintro e w3 ⟨rfl, hb3⟩
    have HF := Lib.hid (ext_trans HB2.out hb3)
    clear hb3
    go_wp2
    go_ret
    exact ⟨rfl, HF.out⟩
  · obtain ⟨hs3, hs2, hs1⟩ := slSmall_of HSM.out HOK.out.2.1.olen
    have HOKW := Lib.hid (fun (W : World) (h : Below w.heap.size w W) => show S.ok W W.heap.size from ⟨fun k hk => ((HOK.out.1 k hk).below h (Nat.le_refl _)).more h.size, (HOK.out.2.1.below h (Nat.le_refl _)).more h.size, fun o ho => ⟨((HOK.out.2.2.1 o ho).1.below h (Nat.le_refl _)).more h.size, (HOK.out.2.2.1 o ho).2⟩, (HOK.out.2.2.2.below h (Nat.le_refl _)).more h.size⟩)
    obtain ⟨sb, hsb⟩ : ∃ z, slB S = z := ⟨_, rfl⟩
    have HSV := Lib.hid (fun (W : World) (h : Below w.heap.size w W) => slave_any S W (HOKW.out W h) hs1 hs2 hs3 sb hsb)
    have HSB := Lib.hid hsb
    have HSS := Lib.hid (And.intro hs1 (And.intro hs2 hs3))
    have HLD2 := Lib.hid (lds_of S g W2 HS2.out.1)
    clear hs1 hs2 hs3 hsb
    go_wp2_with (refine wpList_ldS g (slV S) (.tmp 2) HLD2.out rfl rfl (by rfl) ?_)
    refine (HSV.out _ HB2.out).mono ?_
    rintro e w3 ⟨rfl, hb3⟩
    have HS3 := Lib.hid (HS2.out.below hb3)
    have HB3 := Lib.hid (ext_trans HB2.out hb3)
    clear hb3 HS2 HB2
    cases sb
    · go_wp2_with fail
      refine (awake_any _).mono ?_
      rintro e w4 ⟨rfl, hb4⟩
      have HF := Lib.hid (ext_trans HB3.out hb4)
      clear hb4
      go_wp2
      go_ret
      exact ⟨rfl, HF.out⟩
    · obtain ⟨r, hr⟩ : ∃ r, value0 % 65536 = r := ⟨_, rfl⟩
      have HMD := Lib.hid (fun W => hr ▸ mod_any value0 65536 (by omega) (by omega) W)
      have HAN := Lib.hid (fun (W : World) (h : Below w.heap.size w W) => answer17 S r W (HOKW.out W h) HSS.out.1 HSS.out.2.1 HSS.out.2.2 HSB.out (by omega) (by omega))
      obtain ⟨V, hV⟩ : ∃ V, slV S = V := ⟨_, rfl⟩
      rw [hV] at HAN
      have HV := Lib.hid hV
      clear hr hV
      go_upto_region 3 with fail
      go_cut [5] (fun u x => ∃ (g5 : Nat) (E : Int) (A4 : Option Addr) (n4 c4 : Nat) (xs : List Int), u = .pointer (some ⟨g5, 0, none⟩) ∧ Box x g5 #[.int .i64 17, .int .i64 E, .slice A4 n4 c4, .int .i64 0, .int .i64 0, .bool false, .int .i64 0, .slice none 0 0] ∧ (E, xs) = ans17 S ∧ Rd x x.heap.size 1 A4 n4 (by8 xs) ∧ (∀ b off, A4 = some ⟨b, off, none⟩ → b < x.heap.size) ∧ Box x g (slCells S) ∧ Below w.heap.size w x)
      case first =>
        have HBW := Lib.hid (below_drew HB3.out)
        have HSX := Lib.hid HS3.out.drew
        have hgx := HSX.out.2.2
        have HQ0 := Lib.hid HSX.out.1
        refine rgx_start (by kernel_rfl) ?_
        revert HBW HSX hgx HQ0
        generalize w3.drew = x0
        intro HBW HSX hgx HQ0
        refine rgx_t (v := V) (some 20) 0 (by kernel_rfl) rfl rfl (.inl ⟨by rfl, fun w' q => lds_run (HV.out ▸ lds_of S g w' (fun i => (q g i hgx (by simp)).trans (HQ0.out i))) rfl rfl⟩) ?_
        try simp only [Act.put, List.setIfInBounds_toArray, List.set_cons_zero, List.set_cons_succ]
        refine rgx_t (v := ?_) (some 22) 2 (by kernel_rfl) rfl rfl (.inl ⟨by rfl, fun w' q => ?_⟩) ?_
        rotate_left
        · go_simp <;> with_reducible rfl
        try simp only [Act.put, List.setIfInBounds_toArray, List.set_cons_zero, List.set_cons_succ]
        refine rgx_2 1 5 (by kernel_rfl) ?_ ?_
        · refine ⟨_, rfl, by rfl, fun K hK => ?_⟩
          go_simp
          refine (request_any _).mono ?_
          rintro e x1 ⟨rfl, hb⟩
          have hBW := ext_trans HBW.out hb
          have HBW := Lib.hid hBW
          have HSX := Lib.hid (HSX.out.below hb)
          try have HB5 := Lib.hid (HB5.out.below hb)
          refine hK (fun b => False) _ _ (fun b h => .inl h) (Mem.of_below hb) ?_
          clear hb hBW
          clear hK K
          try simp only [Act.put, List.setIfInBounds_toArray, List.set_cons_zero, List.set_cons_succ]
          refine rgx_q (v := ?_) (some 23) 3 (by kernel_rfl) rfl rfl (by rfl) (fun w' hw K hK => ?_) ?_
          rotate_left
          · go_simp
            refine (HMD.out _).mono ?_
            rintro e x9 ⟨rfl, rfl⟩
            exact hK
          try simp only [Act.put, List.setIfInBounds_toArray, List.set_cons_zero, List.set_cons_succ]
          refine rgx_2 4 5 (by kernel_rfl) ?_ ?_
          · refine ⟨_, rfl, by rfl, fun K hK => ?_⟩
            go_simp
            refine (HAN.out _ HBW.out).mono ?_
            rintro e x2 ⟨E, A4, n4, c4, xs, rfl, hans, hrr, hlo, hb⟩
            have HANS := Lib.hid hans
            have HRR := Lib.hid hrr
            have HLO := Lib.hid hlo
            have HLZ := Lib.hid (Nat.le_refl x2.heap.size)
            try have HNE := Lib.hid (show ∀ b off, A4 = some ⟨b, off, none⟩ → b ≠ g5 from fun b off h => by have := (hlo b off h).1; have := HB5.out.2.2; omega)
            have hBW := ext_trans HBW.out hb
            have HBW := Lib.hid hBW
            have HSX := Lib.hid (HSX.out.below hb)
            try have HB5 := Lib.hid (HB5.out.below hb)
            refine hK (fun b => False) _ _ (fun b h => .inl h) (Mem.of_below hb) ?_
            clear hb hBW hans hrr hlo
            clear hK K
            try simp only [Act.put, List.setIfInBounds_toArray, List.set_cons_zero, List.set_cons_succ]
            refine rgx_1 5 (by kernel_rfl) ?_
            refine ⟨_, rfl, by rfl, fun K hK => ?_⟩
            go_simp
            obtain ⟨g5, hg5⟩ : ∃ g, x2.heap.size = g := ⟨_, rfl⟩
            obtain ⟨x3, hW⟩ : ∃ W, x2.alloc (.cells #[.int .i64 0, .int .i64 0, .slice none 0 0, .int .i64 0, .int .i64 0, .bool false, .int .i64 0, .slice none 0 0] 25) = W := ⟨_, rfl⟩
            have hb : Below x2.heap.size x2 x3 := hW ▸ (Below.refl _ _).alloc (Nat.le_refl _) _
            have HB5 := Lib.hid (show Box x3 g5 #[.int .i64 0, .int .i64 0, .slice none 0 0, .int .i64 0, .int .i64 0, .bool false, .int .i64 0, .slice none 0 0] from hW ▸ hg5 ▸ Box.alloc_)
            rw [hW, hg5]
            have HG5 := Lib.hid (show w.heap.size ≤ g5 from hg5 ▸ HBW.out.size)
            have HGN := Lib.hid (show g ≠ g5 from by have := HSX.out.2.2; omega)
            try have HNE := Lib.hid (show ∀ b off, A4 = some ⟨b, off, none⟩ → b ≠ g5 from fun b off h => by have := (HLO.out b off h).2; omega)
            try have HLZ := Lib.hid (Nat.le_trans HLZ.out hb.size)
            try have HRR := Lib.hid ((HRR.out.below hb (Nat.le_refl _)).more hb.size)
            have hBW := ext_trans HBW.out hb
            have HBW := Lib.hid hBW
            have HSX := Lib.hid (HSX.out.below hb)
            have hz5 : x2.heap.size ≤ g5 := Nat.le_of_eq hg5
            refine hK (fun b => False ∨ b = g5) _ _ (fun b h => by first | exact .inl h | (simp only [false_or] at h ⊢; omega)) (Mem.of_below hb) ?_
            clear hb hW hg5 hBW hz5
            clear hK K
            try simp only [Act.put, List.setIfInBounds_toArray, List.set_cons_zero, List.set_cons_succ]
            refine rgx_1 6 (by kernel_rfl) ?_
            refine ⟨_, rfl, by rfl, fun K hK => ?_⟩
            obtain ⟨qo, zo, lo⟩ := HB5.out
            go_simp
            have hgn := HGN.out
            have hne : ∀ b off, A4 = some ⟨b, off, none⟩ → some b ≠ some g5 := fun b off h e => by injection e with e; exact HNE.out b off h e
            have hB := ((((((((HB5.out.set (k := 0) (v := .int .i64 17) (cs' := #[.int .i64 17, .int .i64 0, .slice none 0 0, .int .i64 0, .int .i64 0, .bool false, .int .i64 0, .slice none 0 0]) (by simp) rfl).set (k := 1) (v := .int .i64 E) (cs' := #[.int .i64 17, .int .i64 E, .slice none 0 0, .int .i64 0, .int .i64 0, .bool false, .int .i64 0, .slice none 0 0]) (by simp) rfl).set (k := 2) (v := .slice A4 n4 c4) (cs' := #[.int .i64 17, .int .i64 E, .slice A4 n4 c4, .int .i64 0, .int .i64 0, .bool false, .int .i64 0, .slice none 0 0]) (by simp) rfl).set (k := 3) (v := .int .i64 0) (cs' := #[.int .i64 17, .int .i64 E, .slice A4 n4 c4, .int .i64 0, .int .i64 0, .bool false, .int .i64 0, .slice none 0 0]) (by simp) rfl).set (k := 4) (v := .int .i64 0) (cs' := #[.int .i64 17, .int .i64 E, .slice A4 n4 c4, .int .i64 0, .int .i64 0, .bool false, .int .i64 0, .slice none 0 0]) (by simp) rfl).set (k := 5) (v := .bool false) (cs' := #[.int .i64 17, .int .i64 E, .slice A4 n4 c4, .int .i64 0, .int .i64 0, .bool false, .int .i64 0, .slice none 0 0]) (by simp) rfl).set (k := 6) (v := .int .i64 0) (cs' := #[.int .i64 17, .int .i64 E, .slice A4 n4 c4, .int .i64 0, .int .i64 0, .bool false, .int .i64 0, .slice none 0 0]) (by simp) rfl).set (k := 7) (v := .slice none 0 0) (cs' := #[.int .i64 17, .int .i64 E, .slice A4 n4 c4, .int .i64 0, .int .i64 0, .bool false, .int .i64 0, .slice none 0 0]) (by simp) rfl)
            have hm := (((((((((Mem.refl (fun b => False ∨ b = g5) x3).of_set (g := g5) (k := 0) (v := .int .i64 17) (by simp)).of_set (g := g5) (k := 1) (v := .int .i64 E) (by simp)).of_set (g := g5) (k := 2) (v := .slice A4 n4 c4) (by simp)).of_set (g := g5) (k := 3) (v := .int .i64 0) (by simp)).of_set (g := g5) (k := 4) (v := .int .i64 0) (by simp)).of_set (g := g5) (k := 5) (v := .bool false) (by simp)).of_set (g := g5) (k := 6) (v := .int .i64 0) (by simp)).of_set (g := g5) (k := 7) (v := .slice none 0 0) (by simp))
            have hsx := ((((((((HSX.out.grown (one_set (one_refl _ g5) 0 (.int .i64 17)) hgn).grown (one_set (one_refl _ g5) 1 (.int .i64 E)) hgn).grown (one_set (one_refl _ g5) 2 (.slice A4 n4 c4)) hgn).grown (one_set (one_refl _ g5) 3 (.int .i64 0)) hgn).grown (one_set (one_refl _ g5) 4 (.int .i64 0)) hgn).grown (one_set (one_refl _ g5) 5 (.bool false)) hgn).grown (one_set (one_refl _ g5) 6 (.int .i64 0)) hgn).grown (one_set (one_refl _ g5) 7 (.slice none 0 0)) hgn)
            have hrr := ((((((((HRR.out.set1 hne 0 (.int .i64 17)).set1 hne 1 (.int .i64 E)).set1 hne 2 (.slice A4 n4 c4)).set1 hne 3 (.int .i64 0)).set1 hne 4 (.int .i64 0)).set1 hne 5 (.bool false)).set1 hne 6 (.int .i64 0)).set1 hne 7 (.slice none 0 0))
            have hbw := ((((((((HBW.out.setCell (p := ⟨g5, 0, none⟩) HG5.out (.int .i64 17)).setCell (p := ⟨g5, 1, none⟩) HG5.out (.int .i64 E)).setCell (p := ⟨g5, 2, none⟩) HG5.out (.slice A4 n4 c4)).setCell (p := ⟨g5, 3, none⟩) HG5.out (.int .i64 0)).setCell (p := ⟨g5, 4, none⟩) HG5.out (.int .i64 0)).setCell (p := ⟨g5, 5, none⟩) HG5.out (.bool false)).setCell (p := ⟨g5, 6, none⟩) HG5.out (.int .i64 0)).setCell (p := ⟨g5, 7, none⟩) HG5.out (.slice none 0 0))
            obtain ⟨x4, hW⟩ : ∃ W, ((((((((x3.setCell ⟨g5, 0, none⟩ (.int .i64 17)).setCell ⟨g5, 1, none⟩ (.int .i64 E)).setCell ⟨g5, 2, none⟩ (.slice A4 n4 c4)).setCell ⟨g5, 3, none⟩ (.int .i64 0)).setCell ⟨g5, 4, none⟩ (.int .i64 0)).setCell ⟨g5, 5, none⟩ (.bool false)).setCell ⟨g5, 6, none⟩ (.int .i64 0)).setCell ⟨g5, 7, none⟩ (.slice none 0 0)) = W := ⟨_, rfl⟩
            rw [hW] at hB hm hsx hrr hbw ⊢
            have HLZ := Lib.hid (show _ ≤ x4.heap.size from Nat.le_trans HLZ.out (hm.1))
            have HBF := Lib.hid hB
            have HSF := Lib.hid hsx
            have HRF := Lib.hid hrr
            have HBWF := Lib.hid hbw
            refine hK (fun b => False ∨ b = g5) _ _ (fun b h => .inl h) hm ?_
            clear hm hW hB hsx hrr hbw qo zo lo hgn hne
            clear hK K
            try simp only [Act.put, List.setIfInBounds_toArray, List.set_cons_zero, List.set_cons_succ]
            refine rgx_d (by kernel_rfl) ?_
            go_wp2_with fail
            go_meet
            case rel => exact ⟨g5, E, A4, n4, c4, xs, rfl, HBF.out, HANS.out, HRF.out, (fun b off h => by have h1 := HLO.out b off h; have h2 := HLZ.out; omega), HSF.out, HBWF.out⟩
          · refine ⟨_, rfl, by rfl, fun K hK => ?_⟩
            go_simp
            obtain ⟨g5, hg5⟩ : ∃ g, x1.heap.size = g := ⟨_, rfl⟩
            obtain ⟨x2, hW⟩ : ∃ W, x1.alloc (.cells #[.int .i64 0, .int .i64 0, .slice none 0 0, .int .i64 0, .int .i64 0, .bool false, .int .i64 0, .slice none 0 0] 25) = W := ⟨_, rfl⟩
            have hb : Below x1.heap.size x1 x2 := hW ▸ (Below.refl _ _).alloc (Nat.le_refl _) _
            have HB5 := Lib.hid (show Box x2 g5 #[.int .i64 0, .int .i64 0, .slice none 0 0, .int .i64 0, .int .i64 0, .bool false, .int .i64 0, .slice none 0 0] from hW ▸ hg5 ▸ Box.alloc_)
            rw [hW, hg5]
            have HG5 := Lib.hid (show w.heap.size ≤ g5 from hg5 ▸ HBW.out.size)
            have HGN := Lib.hid (show g ≠ g5 from by have := HSX.out.2.2; omega)
            try have HNE := Lib.hid (show ∀ b off, A4 = some ⟨b, off, none⟩ → b ≠ g5 from fun b off h => by have := (HLO.out b off h).2; omega)
            try have HLZ := Lib.hid (Nat.le_trans HLZ.out hb.size)
            try have HRR := Lib.hid ((HRR.out.below hb (Nat.le_refl _)).more hb.size)
            have hBW := ext_trans HBW.out hb
            have HBW := Lib.hid hBW
            have HSX := Lib.hid (HSX.out.below hb)
            have hz5 : x1.heap.size ≤ g5 := Nat.le_of_eq hg5
            refine hK (fun b => False ∨ b = g5) _ _ (fun b h => by first | exact .inl h | (simp only [false_or] at h ⊢; omega)) (Mem.of_below hb) ?_
            clear hb hW hg5 hBW hz5
            clear hK K
            try simp only [Act.put, List.setIfInBounds_toArray, List.set_cons_zero, List.set_cons_succ]
            refine rgx_1 4 (by kernel_rfl) ?_
            refine ⟨_, rfl, by rfl, fun K hK => ?_⟩
            go_simp
            refine (HAN.out _ HBW.out).mono ?_
            rintro e x3 ⟨E, A4, n4, c4, xs, rfl, hans, hrr, hlo, hb⟩
            have HANS := Lib.hid hans
            have HRR := Lib.hid hrr
            have HLO := Lib.hid hlo
            have HLZ := Lib.hid (Nat.le_refl x3.heap.size)
            try have HNE := Lib.hid (show ∀ b off, A4 = some ⟨b, off, none⟩ → b ≠ g5 from fun b off h => by have := (hlo b off h).1; have := HB5.out.2.2; omega)
            have hBW := ext_trans HBW.out hb
            have HBW := Lib.hid hBW
            have HSX := Lib.hid (HSX.out.below hb)
            try have HB5 := Lib.hid (HB5.out.below hb)
            refine hK (fun b => False ∨ b = g5) _ _ (fun b h => .inl h) (Mem.of_below hb) ?_
            clear hb hBW hans hrr hlo
            clear hK K
            try simp only [Act.put, List.setIfInBounds_toArray, List.set_cons_zero, List.set_cons_succ]
            refine rgx_1 6 (by kernel_rfl) ?_
            refine ⟨_, rfl, by rfl, fun K hK => ?_⟩
            obtain ⟨qo, zo, lo⟩ := HB5.out
            go_simp
            have hgn := HGN.out
            have hne : ∀ b off, A4 = some ⟨b, off, none⟩ → some b ≠ some g5 := fun b off h e => by injection e with e; exact HNE.out b off h e
            have hB := ((((((((HB5.out.set (k := 0) (v := .int .i64 17) (cs' := #[.int .i64 17, .int .i64 0, .slice none 0 0, .int .i64 0, .int .i64 0, .bool false, .int .i64 0, .slice none 0 0]) (by simp) rfl).set (k := 1) (v := .int .i64 E) (cs' := #[.int .i64 17, .int .i64 E, .slice none 0 0, .int .i64 0, .int .i64 0, .bool false, .int .i64 0, .slice none 0 0]) (by simp) rfl).set (k := 2) (v := .slice A4 n4 c4) (cs' := #[.int .i64 17, .int .i64 E, .slice A4 n4 c4, .int .i64 0, .int .i64 0, .bool false, .int .i64 0, .slice none 0 0]) (by simp) rfl).set (k := 3) (v := .int .i64 0) (cs' := #[.int .i64 17, .int .i64 E, .slice A4 n4 c4, .int .i64 0, .int .i64 0, .bool false, .int .i64 0, .slice none 0 0]) (by simp) rfl).set (k := 4) (v := .int .i64 0) (cs' := #[.int .i64 17, .int .i64 E, .slice A4 n4 c4, .int .i64 0, .int .i64 0, .bool false, .int .i64 0, .slice none 0 0]) (by simp) rfl).set (k := 5) (v := .bool false) (cs' := #[.int .i64 17, .int .i64 E, .slice A4 n4 c4, .int .i64 0, .int .i64 0, .bool false, .int .i64 0, .slice none 0 0]) (by simp) rfl).set (k := 6) (v := .int .i64 0) (cs' := #[.int .i64 17, .int .i64 E, .slice A4 n4 c4, .int .i64 0, .int .i64 0, .bool false, .int .i64 0, .slice none 0 0]) (by simp) rfl).set (k := 7) (v := .slice none 0 0) (cs' := #[.int .i64 17, .int .i64 E, .slice A4 n4 c4, .int .i64 0, .int .i64 0, .bool false, .int .i64 0, .slice none 0 0]) (by simp) rfl)
            have hm := (((((((((Mem.refl (fun b => False ∨ b = g5) x3).of_set (g := g5) (k := 0) (v := .int .i64 17) (by simp)).of_set (g := g5) (k := 1) (v := .int .i64 E) (by simp)).of_set (g := g5) (k := 2) (v := .slice A4 n4 c4) (by simp)).of_set (g := g5) (k := 3) (v := .int .i64 0) (by simp)).of_set (g := g5) (k := 4) (v := .int .i64 0) (by simp)).of_set (g := g5) (k := 5) (v := .bool false) (by simp)).of_set (g := g5) (k := 6) (v := .int .i64 0) (by simp)).of_set (g := g5) (k := 7) (v := .slice none 0 0) (by simp))
            have hsx := ((((((((HSX.out.grown (one_set (one_refl _ g5) 0 (.int .i64 17)) hgn).grown (one_set (one_refl _ g5) 1 (.int .i64 E)) hgn).grown (one_set (one_refl _ g5) 2 (.slice A4 n4 c4)) hgn).grown (one_set (one_refl _ g5) 3 (.int .i64 0)) hgn).grown (one_set (one_refl _ g5) 4 (.int .i64 0)) hgn).grown (one_set (one_refl _ g5) 5 (.bool false)) hgn).grown (one_set (one_refl _ g5) 6 (.int .i64 0)) hgn).grown (one_set (one_refl _ g5) 7 (.slice none 0 0)) hgn)
            have hrr := ((((((((HRR.out.set1 hne 0 (.int .i64 17)).set1 hne 1 (.int .i64 E)).set1 hne 2 (.slice A4 n4 c4)).set1 hne 3 (.int .i64 0)).set1 hne 4 (.int .i64 0)).set1 hne 5 (.bool false)).set1 hne 6 (.int .i64 0)).set1 hne 7 (.slice none 0 0))
            have hbw := ((((((((HBW.out.setCell (p := ⟨g5, 0, none⟩) HG5.out (.int .i64 17)).setCell (p := ⟨g5, 1, none⟩) HG5.out (.int .i64 E)).setCell (p := ⟨g5, 2, none⟩) HG5.out (.slice A4 n4 c4)).setCell (p := ⟨g5, 3, none⟩) HG5.out (.int .i64 0)).setCell (p := ⟨g5, 4, none⟩) HG5.out (.int .i64 0)).setCell (p := ⟨g5, 5, none⟩) HG5.out (.bool false)).setCell (p := ⟨g5, 6, none⟩) HG5.out (.int .i64 0)).setCell (p := ⟨g5, 7, none⟩) HG5.out (.slice none 0 0))
            obtain ⟨x4, hW⟩ : ∃ W, ((((((((x3.setCell ⟨g5, 0, none⟩ (.int .i64 17)).setCell ⟨g5, 1, none⟩ (.int .i64 E)).setCell ⟨g5, 2, none⟩ (.slice A4 n4 c4)).setCell ⟨g5, 3, none⟩ (.int .i64 0)).setCell ⟨g5, 4, none⟩ (.int .i64 0)).setCell ⟨g5, 5, none⟩ (.bool false)).setCell ⟨g5, 6, none⟩ (.int .i64 0)).setCell ⟨g5, 7, none⟩ (.slice none 0 0)) = W := ⟨_, rfl⟩
            rw [hW] at hB hm hsx hrr hbw ⊢
            have HLZ := Lib.hid (show _ ≤ x4.heap.size from Nat.le_trans HLZ.out (hm.1))
            have HBF := Lib.hid hB
            have HSF := Lib.hid hsx
            have HRF := Lib.hid hrr
            have HBWF := Lib.hid hbw
            refine hK (fun b => False ∨ b = g5) _ _ (fun b h => .inl h) hm ?_
            clear hm hW hB hsx hrr hbw qo zo lo hgn hne
            clear hK K
            try simp only [Act.put, List.setIfInBounds_toArray, List.set_cons_zero, List.set_cons_succ]
            refine rgx_d (by kernel_rfl) ?_
            go_wp2_with fail
            go_meet
            case rel => exact ⟨g5, E, A4, n4, c4, xs, rfl, HBF.out, HANS.out, HRF.out, (fun b off h => by have h1 := HLO.out b off h; have h2 := HLZ.out; omega), HSF.out, HBWF.out⟩
        · refine ⟨_, rfl, by rfl, fun K hK => ?_⟩
          go_simp
          obtain ⟨g5, hg5⟩ : ∃ g, x0.heap.size = g := ⟨_, rfl⟩
          obtain ⟨x1, hW⟩ : ∃ W, x0.alloc (.cells #[.int .i64 0, .int .i64 0, .slice none 0 0, .int .i64 0, .int .i64 0, .bool false, .int .i64 0, .slice none 0 0] 25) = W := ⟨_, rfl⟩
          have hb : Below x0.heap.size x0 x1 := hW ▸ (Below.refl _ _).alloc (Nat.le_refl _) _
          have HB5 := Lib.hid (show Box x1 g5 #[.int .i64 0, .int .i64 0, .slice none 0 0, .int .i64 0, .int .i64 0, .bool false, .int .i64 0, .slice none 0 0] from hW ▸ hg5 ▸ Box.alloc_)
          rw [hW, hg5]
          have HG5 := Lib.hid (show w.heap.size ≤ g5 from hg5 ▸ HBW.out.size)
          have HGN := Lib.hid (show g ≠ g5 from by have := HSX.out.2.2; omega)
          try have HNE := Lib.hid (show ∀ b off, A4 = some ⟨b, off, none⟩ → b ≠ g5 from fun b off h => by have := (HLO.out b off h).2; omega)
          try have HLZ := Lib.hid (Nat.le_trans HLZ.out hb.size)
          try have HRR := Lib.hid ((HRR.out.below hb (Nat.le_refl _)).more hb.size)
          have hBW := ext_trans HBW.out hb
          have HBW := Lib.hid hBW
          have HSX := Lib.hid (HSX.out.below hb)
          have hz5 : x0.heap.size ≤ g5 := Nat.le_of_eq hg5
          refine hK (fun b => False ∨ b = g5) _ _ (fun b h => by first | exact .inl h | (simp only [false_or] at h ⊢; omega)) (Mem.of_below hb) ?_
          clear hb hW hg5 hBW hz5
          clear hK K
          try simp only [Act.put, List.setIfInBounds_toArray, List.set_cons_zero, List.set_cons_succ]
          refine rgx_1 1 (by kernel_rfl) ?_
          refine ⟨_, rfl, by rfl, fun K hK => ?_⟩
          go_simp
          refine (request_any _).mono ?_
          rintro e x2 ⟨rfl, hb⟩
          have hBW := ext_trans HBW.out hb
          have HBW := Lib.hid hBW
          have HSX := Lib.hid (HSX.out.below hb)
          try have HB5 := Lib.hid (HB5.out.below hb)
          refine hK (fun b => False ∨ b = g5) _ _ (fun b h => .inl h) (Mem.of_below hb) ?_
          clear hb hBW
          clear hK K
          try simp only [Act.put, List.setIfInBounds_toArray, List.set_cons_zero, List.set_cons_succ]
          refine rgx_q (v := ?_) (some 23) 3 (by kernel_rfl) rfl rfl (by rfl) (fun w' hw K hK => ?_) ?_
          rotate_left
          · go_simp
            refine (HMD.out _).mono ?_
            rintro e x9 ⟨rfl, rfl⟩
            exact hK
          try simp only [Act.put, List.setIfInBounds_toArray, List.set_cons_zero, List.set_cons_succ]
          refine rgx_1 4 (by kernel_rfl) ?_
          refine ⟨_, rfl, by rfl, fun K hK => ?_⟩
          go_simp
          refine (HAN.out _ HBW.out).mono ?_
          rintro e x3 ⟨E, A4, n4, c4, xs, rfl, hans, hrr, hlo, hb⟩
          have HANS := Lib.hid hans
          have HRR := Lib.hid hrr
          have HLO := Lib.hid hlo
          have HLZ := Lib.hid (Nat.le_refl x3.heap.size)
          try have HNE := Lib.hid (show ∀ b off, A4 = some ⟨b, off, none⟩ → b ≠ g5 from fun b off h => by have := (hlo b off h).1; have := HB5.out.2.2; omega)
          have hBW := ext_trans HBW.out hb
          have HBW := Lib.hid hBW
          have HSX := Lib.hid (HSX.out.below hb)
          try have HB5 := Lib.hid (HB5.out.below hb)
          refine hK (fun b => False ∨ b = g5) _ _ (fun b h => .inl h) (Mem.of_below hb) ?_
          clear hb hBW hans hrr hlo
          clear hK K
          try simp only [Act.put, List.setIfInBounds_toArray, List.set_cons_zero, List.set_cons_succ]
          refine rgx_1 6 (by kernel_rfl) ?_
          refine ⟨_, rfl, by rfl, fun K hK => ?_⟩
          obtain ⟨qo, zo, lo⟩ := HB5.out
          go_simp
          have hgn := HGN.out
          have hne : ∀ b off, A4 = some ⟨b, off, none⟩ → some b ≠ some g5 := fun b off h e => by injection e with e; exact HNE.out b off h e
          have hB := ((((((((HB5.out.set (k := 0) (v := .int .i64 17) (cs' := #[.int .i64 17, .int .i64 0, .slice none 0 0, .int .i64 0, .int .i64 0, .bool false, .int .i64 0, .slice none 0 0]) (by simp) rfl).set (k := 1) (v := .int .i64 E) (cs' := #[.int .i64 17, .int .i64 E, .slice none 0 0, .int .i64 0, .int .i64 0, .bool false, .int .i64 0, .slice none 0 0]) (by simp) rfl).set (k := 2) (v := .slice A4 n4 c4) (cs' := #[.int .i64 17, .int .i64 E, .slice A4 n4 c4, .int .i64 0, .int .i64 0, .bool false, .int .i64 0, .slice none 0 0]) (by simp) rfl).set (k := 3) (v := .int .i64 0) (cs' := #[.int .i64 17, .int .i64 E, .slice A4 n4 c4, .int .i64 0, .int .i64 0, .bool false, .int .i64 0, .slice none 0 0]) (by simp) rfl).set (k := 4) (v := .int .i64 0) (cs' := #[.int .i64 17, .int .i64 E, .slice A4 n4 c4, .int .i64 0, .int .i64 0, .bool false, .int .i64 0, .slice none 0 0]) (by simp) rfl).set (k := 5) (v := .bool false) (cs' := #[.int .i64 17, .int .i64 E, .slice A4 n4 c4, .int .i64 0, .int .i64 0, .bool false, .int .i64 0, .slice none 0 0]) (by simp) rfl).set (k := 6) (v := .int .i64 0) (cs' := #[.int .i64 17, .int .i64 E, .slice A4 n4 c4, .int .i64 0, .int .i64 0, .bool false, .int .i64 0, .slice none 0 0]) (by simp) rfl).set (k := 7) (v := .slice none 0 0) (cs' := #[.int .i64 17, .int .i64 E, .slice A4 n4 c4, .int .i64 0, .int .i64 0, .bool false, .int .i64 0, .slice none 0 0]) (by simp) rfl)
          have hm := (((((((((Mem.refl (fun b => False ∨ b = g5) x3).of_set (g := g5) (k := 0) (v := .int .i64 17) (by simp)).of_set (g := g5) (k := 1) (v := .int .i64 E) (by simp)).of_set (g := g5) (k := 2) (v := .slice A4 n4 c4) (by simp)).of_set (g := g5) (k := 3) (v := .int .i64 0) (by simp)).of_set (g := g5) (k := 4) (v := .int .i64 0) (by simp)).of_set (g := g5) (k := 5) (v := .bool false) (by simp)).of_set (g := g5) (k := 6) (v := .int .i64 0) (by simp)).of_set (g := g5) (k := 7) (v := .slice none 0 0) (by simp))
          have hsx := ((((((((HSX.out.grown (one_set (one_refl _ g5) 0 (.int .i64 17)) hgn).grown (one_set (one_refl _ g5) 1 (.int .i64 E)) hgn).grown (one_set (one_refl _ g5) 2 (.slice A4 n4 c4)) hgn).grown (one_set (one_refl _ g5) 3 (.int .i64 0)) hgn).grown (one_set (one_refl _ g5) 4 (.int .i64 0)) hgn).grown (one_set (one_refl _ g5) 5 (.bool false)) hgn).grown (one_set (one_refl _ g5) 6 (.int .i64 0)) hgn).grown (one_set (one_refl _ g5) 7 (.slice none 0 0)) hgn)
          have hrr := ((((((((HRR.out.set1 hne 0 (.int .i64 17)).set1 hne 1 (.int .i64 E)).set1 hne 2 (.slice A4 n4 c4)).set1 hne 3 (.int .i64 0)).set1 hne 4 (.int .i64 0)).set1 hne 5 (.bool false)).set1 hne 6 (.int .i64 0)).set1 hne 7 (.slice none 0 0))
          have hbw := ((((((((HBW.out.setCell (p := ⟨g5, 0, none⟩) HG5.out (.int .i64 17)).setCell (p := ⟨g5, 1, none⟩) HG5.out (.int .i64 E)).setCell (p := ⟨g5, 2, none⟩) HG5.out (.slice A4 n4 c4)).setCell (p := ⟨g5, 3, none⟩) HG5.out (.int .i64 0)).setCell (p := ⟨g5, 4, none⟩) HG5.out (.int .i64 0)).setCell (p := ⟨g5, 5, none⟩) HG5.out (.bool false)).setCell (p := ⟨g5, 6, none⟩) HG5.out (.int .i64 0)).setCell (p := ⟨g5, 7, none⟩) HG5.out (.slice none 0 0))
          obtain ⟨x4, hW⟩ : ∃ W, ((((((((x3.setCell ⟨g5, 0, none⟩ (.int .i64 17)).setCell ⟨g5, 1, none⟩ (.int .i64 E)).setCell ⟨g5, 2, none⟩ (.slice A4 n4 c4)).setCell ⟨g5, 3, none⟩ (.int .i64 0)).setCell ⟨g5, 4, none⟩ (.int .i64 0)).setCell ⟨g5, 5, none⟩ (.bool false)).setCell ⟨g5, 6, none⟩ (.int .i64 0)).setCell ⟨g5, 7, none⟩ (.slice none 0 0)) = W := ⟨_, rfl⟩
          rw [hW] at hB hm hsx hrr hbw ⊢
          have HLZ := Lib.hid (show _ ≤ x4.heap.size from Nat.le_trans HLZ.out (hm.1))
          have HBF := Lib.hid hB
          have HSF := Lib.hid hsx
          have HRF := Lib.hid hrr
          have HBWF := Lib.hid hbw
          refine hK (fun b => False ∨ b = g5) _ _ (fun b h => .inl h) hm ?_
          clear hm hW hB hsx hrr hbw qo zo lo hgn hne
          clear hK K
          try simp only [Act.put, List.setIfInBounds_toArray, List.set_cons_zero, List.set_cons_succ]
          refine rgx_d (by kernel_rfl) ?_
          go_wp2_with fail
          go_meet
          case rel => exact ⟨g5, E, A4, n4, c4, xs, rfl, HBF.out, HANS.out, HRF.out, (fun b off h => by have h1 := HLO.out b off h; have h2 := HLZ.out; omega), HSF.out, HBWF.out⟩
      case rest =>
        obtain ⟨g5, E, A4, n4, c4, xs, rfl, hb5, hans, hrr, hlo4, hsx, hbw⟩ := hcut
        have HB5 := Lib.hid hb5
        have HANS := Lib.hid hans
        have HRR := Lib.hid hrr
        have HSX := Lib.hid hsx
        have HBW := Lib.hid hbw
        have HSVL := Lib.hid (show S.sn = S.sv.length by have := HOK.out.2.2.2.1; simpa using this.symm)
        have hmi := (slB_of HSB.out).2.2.1
        simp only [midB, Bool.and_eq_true] at hmi
        have HMI := Lib.hid hmi.1.2
        have hn4 : n4 = xs.length := by have := hrr.1; simpa using this.symm
        have HN4 := Lib.hid (show n4 ≤ 100000 by
          have h := hans
          have h3 := HSS.out.2.2
          have h4 := HSVL.out
          unfold ans17 at h
          split at h
          · have := congrArg Prod.snd h; simp only at this; rw [hn4, this]; omega
          · have := congrArg Prod.snd h; simp only at this; rw [hn4, this]; simp)
        have HA4 := Lib.hid (show ∀ b off, A4 = some ⟨b, off, none⟩ → b ≠ wc.heap.size from fun b off h => by have := hlo4 b off h; omega)
        clear hb5 hans hrr hlo4 hsx hbw hmi hn4
        cases hhs : S.hs
        · have hans2 : E = 1 ∧ xs = [] := by
            have h := HANS.out
            rw [ans17, hhs] at h
            exact ⟨congrArg Prod.fst h, congrArg Prod.snd h⟩
          obtain ⟨rfl, rfl⟩ := hans2
          have hnil : S.sv = [] := by
            have h := HMI.out
            rw [hhs, HSVL.out] at h
            simpa using h
          have hsrv : srv 2 17 1 [] = (5, []) := by decide
          obtain ⟨ys, hY⟩ : ∃ ys, S.sv = ys := ⟨_, rfl⟩
          have HSRV := Lib.hid (show srv 2 17 1 [] = (5, ys) from by first | (rw [hY]; exact hsrv) | (rw [← hY, hnil]; exact hsrv))
          have HYS := Lib.hid hY
          have c17 : wc.cell? ⟨g, 17, none⟩ = some (.bool false) := by rw [← hhs]; exact HSX.out.1 17
          have HHS := Lib.hid hhs
          clear hsrv hY hhs hnil
          obtain ⟨q5, z5, l5⟩ := HB5.out
          have HB6 := Lib.hid (Box.alloc_ (w := wc) (cs := #[.int .i64 2, .int .i64 17, .int .i64 1, .slice A4 n4 c4, .int .i64 0, .int .i64 0, .bool false, .int .i64 0, .slice none 0 0]) (e := 27))
          have HBW6 := Lib.hid (ext_alloc HBW.out (.cells #[.int .i64 2, .int .i64 17, .int .i64 1, .slice A4 n4 c4, .int .i64 0, .int .i64 0, .bool false, .int .i64 0, .slice none 0 0] 27))
          have HSX6 := Lib.hid (HSX.out.alloc' (.cells #[.int .i64 2, .int .i64 17, .int .i64 1, .slice A4 n4 c4, .int .i64 0, .int .i64 0, .bool false, .int .i64 0, .slice none 0 0] 27))
          have HRR6 := Lib.hid ((HRR.out.alloc' (.cells #[.int .i64 2, .int .i64 17, .int .i64 1, .slice A4 n4 c4, .int .i64 0, .int .i64 0, .bool false, .int .i64 0, .slice none 0 0] 27) (Nat.le_refl _)).more (show wc.heap.size ≤ (wc.alloc (.cells #[.int .i64 2, .int .i64 17, .int .i64 1, .slice A4 n4 c4, .int .i64 0, .int .i64 0, .bool false, .int .i64 0, .slice none 0 0] 27)).heap.size by simp))
          have HG6 := Lib.hid (show g < wc.heap.size from HSX.out.2.2)
          go_upto_region 7 with fail
          obtain ⟨W6, hW6⟩ : ∃ W, wc.alloc (.cells #[.int .i64 2, .int .i64 17, .int .i64 1, .slice A4 n4 c4, .int .i64 0, .int .i64 0, .bool false, .int .i64 0, .slice none 0 0] 27) = W := ⟨_, rfl⟩
          obtain ⟨g6, hg6⟩ : ∃ g, wc.heap.size = g := ⟨_, rfl⟩
          rw [hW6] at HB6 HBW6 HSX6 HRR6
          rw [hg6] at HB6
          try rw [hW6]
          try rw [hg6]
          clear hW6 hg6 q5 z5 l5 c17
          obtain ⟨q6, z6, l6⟩ := HB6.out
          go_wp2_with fail
          refine (result_eq 2 17 1 0 0 0 false A4 none n4 c4 0 0 _ [] ys 5 _ _ HRR6.out HN4.out HSRV.out rfl).mono ?_
          rintro e w7 ⟨A7, c7, rfl, hr7, hb7⟩
          have HSX8 := Lib.hid (HSX6.out.below hb7)
          have HBW8 := Lib.hid (ext_trans HBW6.out hb7)
          have HR8 := Lib.hid hr7
          clear hb7 hr7 q6 z6 l6
          have c17 : w7.cell? ⟨g, 17, none⟩ = some (.bool false) := by rw [← HHS.out]; exact HSX8.out.1 17
          have hgl := HSX8.out.2.2
          go_wp2_with fail
          refine (awake_any _).mono ?_
          rintro e w8 ⟨rfl, hb8⟩
          have HSX9 := Lib.hid (HSX8.out.below hb8)
          have HBW9 := Lib.hid (ext_trans HBW8.out hb8)
          have HR9 := Lib.hid ((HR8.out.below hb8 (Nat.le_refl _)).more hb8.size)
          clear hb8 c17 hgl
          go_wp2_with fail
          refine (request_any _).mono ?_
          rintro e w9 ⟨rfl, hb9⟩
          have HSX10 := Lib.hid (HSX9.out.below hb9)
          have HBW10 := Lib.hid (ext_trans HBW9.out hb9)
          have HR10 := Lib.hid ((HR9.out.below hb9 (Nat.le_refl _)).more hb9.size)
          clear hb9
          go_wp2_with fail
          refine (valid17 _).mono ?_
          rintro e w10 ⟨rfl, hb10⟩
          have HSX11 := Lib.hid (HSX10.out.below hb10)
          have HBW11 := Lib.hid (ext_trans HBW10.out hb10)
          have HR11 := Lib.hid ((HR10.out.below hb10 (Nat.le_refl _)).more hb10.size)
          clear hb10
          have c18 : w10.cell? ⟨g, 18, none⟩ = some (.slice S.sA S.sn S.sc) := HSX11.out.1 18
          have hgl := HSX11.out.2.2
          obtain ⟨st, hst⟩ : ∃ st, strOfNums ys = st := ⟨_, rfl⟩
          have s1 : (convert 22 9 (.slice A7 ys.length c7)).run Try.prog w10 = .ok (.string st) w10 := by rw [← hst]; exact HR11.out.str
          have s2 : (convert 22 9 (.slice S.sA S.sn S.sc)).run Try.prog w10 = .ok (.string st) w10 := by rw [← hst, ← HYS.out]; exact (HOK.out.2.2.2.below HBW11.out (Nat.le_refl _)).str
          clear hst
          go_wp2
          go_ret
          exact ⟨rfl, HBW11.out⟩
        · have hans2 : E = 0 ∧ xs = S.sv := by
            have h := HANS.out
            rw [ans17, hhs] at h
            exact ⟨congrArg Prod.fst h, congrArg Prod.snd h⟩
          obtain ⟨rfl, rfl⟩ := hans2
          have hpos : 0 < S.sv.length := by
            have h := HMI.out
            rw [hhs, HSVL.out] at h
            simpa using h
          have hsrv : srv 1 17 0 S.sv = (2, S.sv) := by rw [srv, if_pos ⟨rfl, rfl, hpos⟩]
          have hys : S.sv = S.sv := rfl
          obtain ⟨ys, hY⟩ : ∃ ys, S.sv = ys := ⟨_, rfl⟩
          rw [hY] at hsrv
          have HSRV := Lib.hid (show srv 1 17 0 S.sv = (2, ys) from by first | (rw [hY]; exact hsrv) | (rw [← hY, hnil]; exact hsrv))
          have HYS := Lib.hid hY
          have c17 : wc.cell? ⟨g, 17, none⟩ = some (.bool true) := by rw [← hhs]; exact HSX.out.1 17
          have HHS := Lib.hid hhs
          clear hsrv hY hhs hpos hys
          obtain ⟨q5, z5, l5⟩ := HB5.out
          have HB6 := Lib.hid (Box.alloc_ (w := wc) (cs := #[.int .i64 1, .int .i64 17, .int .i64 0, .slice A4 n4 c4, .int .i64 0, .int .i64 0, .bool false, .int .i64 0, .slice none 0 0]) (e := 27))
          have HBW6 := Lib.hid (ext_alloc HBW.out (.cells #[.int .i64 1, .int .i64 17, .int .i64 0, .slice A4 n4 c4, .int .i64 0, .int .i64 0, .bool false, .int .i64 0, .slice none 0 0] 27))
          have HSX6 := Lib.hid (HSX.out.alloc' (.cells #[.int .i64 1, .int .i64 17, .int .i64 0, .slice A4 n4 c4, .int .i64 0, .int .i64 0, .bool false, .int .i64 0, .slice none 0 0] 27))
          have HRR6 := Lib.hid ((HRR.out.alloc' (.cells #[.int .i64 1, .int .i64 17, .int .i64 0, .slice A4 n4 c4, .int .i64 0, .int .i64 0, .bool false, .int .i64 0, .slice none 0 0] 27) (Nat.le_refl _)).more (show wc.heap.size ≤ (wc.alloc (.cells #[.int .i64 1, .int .i64 17, .int .i64 0, .slice A4 n4 c4, .int .i64 0, .int .i64 0, .bool false, .int .i64 0, .slice none 0 0] 27)).heap.size by simp))
          have HG6 := Lib.hid (show g < wc.heap.size from HSX.out.2.2)
          go_upto_region 7 with fail
          obtain ⟨W6, hW6⟩ : ∃ W, wc.alloc (.cells #[.int .i64 1, .int .i64 17, .int .i64 0, .slice A4 n4 c4, .int .i64 0, .int .i64 0, .bool false, .int .i64 0, .slice none 0 0] 27) = W := ⟨_, rfl⟩
          obtain ⟨g6, hg6⟩ : ∃ g, wc.heap.size = g := ⟨_, rfl⟩
          rw [hW6] at HB6 HBW6 HSX6 HRR6
          rw [hg6] at HB6
          try rw [hW6]
          try rw [hg6]
          clear hW6 hg6 q5 z5 l5 c17
          obtain ⟨q6, z6, l6⟩ := HB6.out
          go_wp2_with fail
          refine (result_eq 1 17 0 0 0 0 false A4 none n4 c4 0 0 _ S.sv ys 2 _ _ HRR6.out HN4.out HSRV.out rfl).mono ?_
          rintro e w7 ⟨A7, c7, rfl, hr7, hb7⟩
          have HSX8 := Lib.hid (HSX6.out.below hb7)
          have HBW8 := Lib.hid (ext_trans HBW6.out hb7)
          have HR8 := Lib.hid hr7
          clear hb7 hr7 q6 z6 l6
          have c17 : w7.cell? ⟨g, 17, none⟩ = some (.bool true) := by rw [← HHS.out]; exact HSX8.out.1 17
          have hgl := HSX8.out.2.2
          go_wp2_with fail
          refine (awake_any _).mono ?_
          rintro e w8 ⟨rfl, hb8⟩
          have HSX9 := Lib.hid (HSX8.out.below hb8)
          have HBW9 := Lib.hid (ext_trans HBW8.out hb8)
          have HR9 := Lib.hid ((HR8.out.below hb8 (Nat.le_refl _)).more hb8.size)
          clear hb8 c17 hgl
          go_wp2_with fail
          refine (request_any _).mono ?_
          rintro e w9 ⟨rfl, hb9⟩
          have HSX10 := Lib.hid (HSX9.out.below hb9)
          have HBW10 := Lib.hid (ext_trans HBW9.out hb9)
          have HR10 := Lib.hid ((HR9.out.below hb9 (Nat.le_refl _)).more hb9.size)
          clear hb9
          go_wp2_with fail
          refine (valid17 _).mono ?_
          rintro e w10 ⟨rfl, hb10⟩
          have HSX11 := Lib.hid (HSX10.out.below hb10)
          have HBW11 := Lib.hid (ext_trans HBW10.out hb10)
          have HR11 := Lib.hid ((HR10.out.below hb10 (Nat.le_refl _)).more hb10.size)
          clear hb10
          have c18 : w10.cell? ⟨g, 18, none⟩ = some (.slice S.sA S.sn S.sc) := HSX11.out.1 18
          have hgl := HSX11.out.2.2
          obtain ⟨st, hst⟩ : ∃ st, strOfNums ys = st := ⟨_, rfl⟩
          have s1 : (convert 22 9 (.slice A7 ys.length c7)).run Try.prog w10 = .ok (.string st) w10 := by rw [← hst]; exact HR11.out.str
          have s2 : (convert 22 9 (.slice S.sA S.sn S.sc)).run Try.prog w10 = .ok (.string st) w10 := by rw [← hst, ← HYS.out]; exact (HOK.out.2.2.2.below HBW11.out (Nat.le_refl _)).str
          clear hst
          go_wp2
          go_ret
          exact ⟨rfl, HBW11.out⟩
end Go.Proofs.Ytmelkboejkoiiaa

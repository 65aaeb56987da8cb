/- The reference of the receiver: SameFrame, SameFrames (of lists with equal contents). -/
import Derived.Test.YthgapllfjllnfaaRcvB
import Derived.Test.YthgapllfjllnfaaRcvY
import Derived.Test.YthgapllfjllnfaaOpenBy
set_option linter.unusedVariables false
set_option linter.unusedSimpArgs false
namespace Go.Proofs.Ythgapllfjllnfaa
open Go.RowKit

set_option maxRecDepth 100000 in
set_option maxHeartbeats 8000000 in
theorem rsame_eq (A1 A2 : Option Addr) (n1 c1 n2 c2 : Nat) (xs : List Int) (fi la fl : Int) (w : World) (h1 : Rd w w.heap.size 1 A1 n1 (by8 xs)) (h2 : Rd w w.heap.size 1 A2 n2 (by8 xs)) :
    Calls Try.prog 26 #[.agg #[.slice A1 n1 c1, .int .i64 fi, .int .i64 la, .int .i64 fl], .agg #[.slice A2 n2 c2, .int .i64 fi, .int .i64 la, .int .i64 fl]] w fun e w' => e = .returned (.bool true) ∧ Below w.heap.size w w' := by
  have hb1 : Below w.heap.size w (w.alloc (.cells #[.slice A1 n1 c1, .int .i64 fi, .int .i64 la, .int .i64 fl] 44)) := (Below.refl _ _).alloc (Nat.le_refl _) _
  have hb2 := hb1.alloc hb1.size (.cells #[.slice A2 n2 c2, .int .i64 fi, .int .i64 la, .int .i64 fl] 44)
  obtain ⟨st, hst⟩ : ∃ st, strOfNums xs = st := ⟨_, rfl⟩
  have t1 : ∀ W, Below w.heap.size w W → (convert 38 9 (.slice A1 n1 c1)).run Try.prog W = .ok (.string st) W := fun W h => by rw [← hst]; exact (h1.below h (Nat.le_refl _)).str
  have t2 : ∀ W, Below w.heap.size w W → (convert 38 9 (.slice A2 n2 c2)).run Try.prog W = .ok (.string st) W := fun W h => by rw [← hst]; exact (h2.below h (Nat.le_refl _)).str
  have s1 := t1 _ hb2
  have s2 := t2 _ hb2
  clear t1 t2
  obtain ⟨q1, z1, l1⟩ := (Box.alloc_ (w := w) (cs := #[.slice A1 n1 c1, .int .i64 fi, .int .i64 la, .int .i64 fl]) (e := 44)).alloc' (.cells #[.slice A2 n2 c2, .int .i64 fi, .int .i64 la, .int .i64 fl] 44)
  obtain ⟨q2, z2, l2⟩ := Box.alloc_ (w := w.alloc (.cells #[.slice A1 n1 c1, .int .i64 fi, .int .i64 la, .int .i64 fl] 44)) (cs := #[.slice A2 n2 c2, .int .i64 fi, .int .i64 la, .int .i64 fl]) (e := 44)
  simp only [World.size_alloc] at q2 z2 l2
  have HB2 := Lib.hid hb2
  clear hb1 hb2 h1 h2 hst
  go_enter Try.func26, Try.ntmps26
  go_wp2
  go_ret
  exact ⟨by first | rfl | simp, HB2.out⟩
theorem frCells_get (l : List Fr) (k : Nat) (h : k < l.length) : (frCells l)[k * 4]? = some (.slice l[k].A l[k].n l[k].c) ∧ (frCells l)[k * 4 + 1]? = some (.int .i64 l[k].fi) ∧ (frCells l)[k * 4 + 2]? = some (.int .i64 l[k].la) ∧ (frCells l)[k * 4 + 3]? = some (.int .i64 l[k].fl) := by
  induction l generalizing k with
  | nil => cases h
  | cons e t ih =>
    rcases k with _ | k
    · simp [frCells]
    · have := ih k (by simpa using h)
      rw [show (k + 1) * 4 = k * 4 + 4 by omega, show k * 4 + 4 + 1 = k * 4 + 1 + 4 by omega, show k * 4 + 4 + 2 = k * 4 + 2 + 4 by omega, show k * 4 + 4 + 3 = k * 4 + 3 + 4 by omega]
      simpa [frCells] using this
theorem frCells_length (l : List Fr) : (frCells l).length = l.length * 4 := by
  induction l with
  | nil => rfl
  | cons e t ih => simp [frCells] at ih ⊢; omega
set_option maxRecDepth 100000 in
set_option maxHeartbeats 8000000 in
theorem rsames_eq (l1 l2 : List Fr) (heq : l1.map fz = l2.map fz) (A1 A2 : Option Addr) (n n2 c1 c2 : Nat) (w : World) (h1 : Rd w w.heap.size 4 A1 n (frCells l1)) (h2 : Rd w w.heap.size 4 A2 n2 (frCells l2)) (hn : n ≤ 100000) (g1 : ∀ f ∈ l1, FrOk w (fun _ => False) f) (g2 : ∀ f ∈ l2, FrOk w (fun _ => False) f) :
    Calls Try.prog 14 #[.slice A1 n c1, .slice A2 n2 c2] w fun e w' => e = .returned (.bool true) ∧ Below w.heap.size w w' := by
  have hl1 : l1.length = n := by have := h1.1; rw [frCells_length] at this; omega
  have hl2 : l2.length = n2 := by have := h2.1; rw [frCells_length] at this; omega
  have hlen : l1.length = l2.length := by have := congrArg List.length heq; simpa using this
  obtain rfl : n = n2 := by omega
  have H1 := Lib.hid h1
  have H2 := Lib.hid h2
  have G1 := Lib.hid g1
  have G2 := Lib.hid g2
  have HEQ := Lib.hid heq
  have HL1 := Lib.hid hl1
  have HL2 := Lib.hid hl2
  clear h1 h2 g1 g2 heq hl1 hl2 hlen
  go_enter Try.func14, Try.ntmps14
  go_wp2_with fail
  go_loopw [5] (fun i x => ∃ k : Nat, k ≤ n ∧ i = .int .i64 k ∧ Below w.heap.size w x) (fun i _ => n - (intOf i).toNat)
  case atStart => exact ⟨0, by omega, rfl, Below.refl _ _⟩
  case round =>
    obtain ⟨k, hk, rfl, hbr⟩ := hrel
    have HBR := Lib.hid hbr
    clear hbr
    by_cases hlt : k < n
    · have hk1 : k < l1.length := by have := HL1.out; omega
      have hk2 : k < l2.length := by have := HL2.out; omega
      have hf : fz l1[k] = fz l2[k] := by
        have := congrArg (fun l => l[k]?) HEQ.out
        simpa [List.getElem?_eq_getElem hk1, List.getElem?_eq_getElem hk2] using this
      obtain ⟨b1, o1, rfl, hb1, cc1⟩ := H1.out.2 (by omega)
      obtain ⟨b2, o2, rfl, hb2, cc2⟩ := H2.out.2 (by omega)
      obtain ⟨e0, e1, e2, e3⟩ := frCells_get l1 k hk1
      obtain ⟨d0, d1, d2, d3⟩ := frCells_get l2 k hk2
      have F1 := G1.out _ (List.getElem_mem hk1)
      have F2 := G2.out _ (List.getElem_mem hk2)
      obtain ⟨f1, hf1⟩ : ∃ f, l1[k] = f := ⟨_, rfl⟩
      obtain ⟨f2, hf2⟩ : ∃ f, l2[k] = f := ⟨_, rfl⟩
      rw [hf1] at e0 e1 e2 e3 F1 hf
      rw [hf2] at d0 d1 d2 d3 F2 hf
      obtain ⟨A3, n3, c3, xs, fi, la, fl⟩ := f1
      obtain ⟨A4, n4, c4, xs4, fi4, la4, fl4⟩ := f2
      simp only [fz, Fz.mk.injEq] at hf
      obtain ⟨rfl, rfl, rfl, rfl⟩ := hf
      dsimp only at e0 e1 e2 e3 d0 d1 d2 d3
      have HF := Lib.hid (fun (W : World) (h : Below w.heap.size w W) => show (W.cell? ⟨b1, o1 + k * 4, none⟩ = some (.slice A3 n3 c3) ∧ W.cell? ⟨b1, o1 + k * 4 + 1, none⟩ = some (.int .i64 fi) ∧ W.cell? ⟨b1, o1 + k * 4 + 2, none⟩ = some (.int .i64 la) ∧ W.cell? ⟨b1, o1 + k * 4 + 3, none⟩ = some (.int .i64 fl) ∧ W.cell? ⟨b2, o2 + k * 4, none⟩ = some (.slice A4 n4 c4) ∧ W.cell? ⟨b2, o2 + k * 4 + 1, none⟩ = some (.int .i64 fi) ∧ W.cell? ⟨b2, o2 + k * 4 + 2, none⟩ = some (.int .i64 la) ∧ W.cell? ⟨b2, o2 + k * 4 + 3, none⟩ = some (.int .i64 fl)) from
        ⟨(h.cell (p := ⟨b1, o1 + k * 4, none⟩) hb1).trans (cc1 _ _ e0), (h.cell (p := ⟨b1, o1 + k * 4 + 1, none⟩) hb1).trans (cc1 _ _ e1), (h.cell (p := ⟨b1, o1 + k * 4 + 2, none⟩) hb1).trans (cc1 _ _ e2), (h.cell (p := ⟨b1, o1 + k * 4 + 3, none⟩) hb1).trans (cc1 _ _ e3),
         (h.cell (p := ⟨b2, o2 + k * 4, none⟩) hb2).trans (cc2 _ _ d0), (h.cell (p := ⟨b2, o2 + k * 4 + 1, none⟩) hb2).trans (cc2 _ _ d1), (h.cell (p := ⟨b2, o2 + k * 4 + 2, none⟩) hb2).trans (cc2 _ _ d2), (h.cell (p := ⟨b2, o2 + k * 4 + 3, none⟩) hb2).trans (cc2 _ _ d3)⟩)
      have HX := Lib.hid (fun (W : World) (h : Below w.heap.size w W) => rsame_eq A3 A4 n3 c3 n4 c4 xs fi la fl W ((F1.1.below h (Nat.le_refl _)).more h.size) ((F2.1.below h (Nat.le_refl _)).more h.size))
      clear hf1 hf2 e0 e1 e2 e3 d0 d1 d2 d3 F1 F2 cc1 cc2 hk1 hk2
      go_upto_region 6 with fail
      have HBD := Lib.hid (below_drew HBR.out)
      have hS0 := HF.out _ HBD.out
      refine rgs_start (fun W => W.cell? ⟨b1, o1 + k * 4, none⟩ = some (.slice A3 n3 c3) ∧ W.cell? ⟨b1, o1 + k * 4 + 1, none⟩ = some (.int .i64 fi) ∧ W.cell? ⟨b1, o1 + k * 4 + 2, none⟩ = some (.int .i64 la) ∧ W.cell? ⟨b1, o1 + k * 4 + 3, none⟩ = some (.int .i64 fl) ∧ W.cell? ⟨b2, o2 + k * 4, none⟩ = some (.slice A4 n4 c4) ∧ W.cell? ⟨b2, o2 + k * 4 + 1, none⟩ = some (.int .i64 fi) ∧ W.cell? ⟨b2, o2 + k * 4 + 2, none⟩ = some (.int .i64 la) ∧ W.cell? ⟨b2, o2 + k * 4 + 3, none⟩ = some (.int .i64 fl)) (by kernel_rfl) ?_
      refine rgs_t (v := ?_) (some 17) 0 (by kernel_rfl) rfl rfl (by assumption) (.inl ⟨by rfl, fun w' hw => ?_⟩) ?_
      rotate_left
      · obtain ⟨q1, q2, q3⟩ := hw; go_simp <;> with_reducible rfl
      try simp only [Act.put, List.setIfInBounds_toArray, List.set_cons_zero, List.set_cons_succ]
      refine rgs_t (v := ?_) (some 18) 1 (by kernel_rfl) rfl rfl (by assumption) (.inl ⟨by rfl, fun w' hw => ?_⟩) ?_
      rotate_left
      · obtain ⟨q1, q2, q3⟩ := hw; go_simp <;> with_reducible rfl
      try simp only [Act.put, List.setIfInBounds_toArray, List.set_cons_zero, List.set_cons_succ]
      refine rgs_t (v := ?_) (some 19) 2 (by kernel_rfl) rfl rfl (by assumption) (.inl ⟨by rfl, fun w' hw => ?_⟩) ?_
      rotate_left
      · obtain ⟨q1, q2, q3⟩ := hw; go_simp <;> with_reducible rfl
      try simp only [Act.put, List.setIfInBounds_toArray, List.set_cons_zero, List.set_cons_succ]
      refine rgs_t (v := ?_) (some 20) 3 (by kernel_rfl) rfl rfl (by assumption) (.inl ⟨by rfl, fun w' hw => ?_⟩) ?_
      rotate_left
      · obtain ⟨q1, q2, q3⟩ := hw; go_simp <;> with_reducible rfl
      try simp only [Act.put, List.setIfInBounds_toArray, List.set_cons_zero, List.set_cons_succ]
      refine rgs_t (v := ?_) (some 21) 4 (by kernel_rfl) rfl rfl (by assumption) (.inl ⟨by rfl, fun w' hw => ?_⟩) ?_
      rotate_left
      · obtain ⟨q1, q2, q3⟩ := hw; go_simp <;> with_reducible rfl
      try simp only [Act.put, List.setIfInBounds_toArray, List.set_cons_zero, List.set_cons_succ]
      refine rgs_t (v := ?_) (some 22) 5 (by kernel_rfl) rfl rfl (by assumption) (.inl ⟨by rfl, fun w' hw => ?_⟩) ?_
      rotate_left
      · obtain ⟨q1, q2, q3⟩ := hw; go_simp <;> with_reducible rfl
      try simp only [Act.put, List.setIfInBounds_toArray, List.set_cons_zero, List.set_cons_succ]
      refine rgs_t (v := ?_) (some 23) 6 (by kernel_rfl) rfl rfl (by assumption) (.inl ⟨by rfl, fun w' hw => ?_⟩) ?_
      rotate_left
      · obtain ⟨q1, q2, q3⟩ := hw; go_simp <;> with_reducible rfl
      try simp only [Act.put, List.setIfInBounds_toArray, List.set_cons_zero, List.set_cons_succ]
      refine rgs_t (v := ?_) (some 24) 7 (by kernel_rfl) rfl rfl (by assumption) (.inl ⟨by rfl, fun w' hw => ?_⟩) ?_
      rotate_left
      · obtain ⟨q1, q2, q3⟩ := hw; go_simp <;> with_reducible rfl
      try simp only [Act.put, List.setIfInBounds_toArray, List.set_cons_zero, List.set_cons_succ]
      refine rgs_c 8 (by kernel_rfl) rfl (by rfl) (fun K hK => ?_)
      go_simp
      refine (HX.out _ HBD.out).mono ?_
      rintro e x5 ⟨rfl, hb5⟩
      have HB5 := Lib.hid (ext_trans HBD.out hb5)
      have hS5 := HF.out _ HB5.out
      refine hK _ _ hS5 ?_
      clear hb5 hS0
      clear hK K
      try simp only [Act.put, List.setIfInBounds_toArray, List.set_cons_zero, List.set_cons_succ]
      refine rgs_t (v := ?_) (some 26) 9 (by kernel_rfl) rfl rfl (by assumption) (.inl ⟨by rfl, fun w' hw => ?_⟩) ?_
      rotate_left
      · obtain ⟨q1, q2, q3⟩ := hw; go_simp <;> with_reducible rfl
      try simp only [Act.put, List.setIfInBounds_toArray, List.set_cons_zero, List.set_cons_succ]
      refine rgs_d (by kernel_rfl) ?_
      go_wp2_with fail
      go_roundw
      case rel => exact ⟨k + 1, by omega, by go_num, HB5.out⟩
      case measure => simp [intOf]; omega
    · have d1 : decide ((k : Int) < (n : Int)) = false := by simp; omega
      go_wp2
      go_ret
      exact ⟨rfl, HBR.out⟩
end Go.Proofs.Ythgapllfjllnfaa

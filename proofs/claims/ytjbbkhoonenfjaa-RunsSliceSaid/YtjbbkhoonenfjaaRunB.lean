/- Layer 4: the law RunsSet. -/
import Derived.Test.YtjbbkhoonenfjaaRunA
set_option linter.unusedVariables false
set_option linter.unusedSimpArgs false
namespace Go.Proofs.Ytjbbkhoonenfjaa
open Go.RowKit

def inP (i f c : Int) : Bool := if c < 1 ∨ i < f then false else (decide (0 ≤ f) && decide (i - f < c)) || (decide (f < 0) && (decide (i < c) && decide (i < f + c)))
theorem in_any (i : Int) (f c : Int) (r : Bool) (w : World) (hi : 0 ≤ i) (hi2 : i ≤ 1000000) (hf1 : -9223372036854775808 ≤ f) (hf2 : f ≤ 9223372036854775807) (hc1 : -9223372036854775808 ≤ c) (hc2 : c ≤ 9223372036854775807) (h : inP i f c = r) :
    Calls Try.prog 25 #[.int .i64 i, .int .i64 f, .int .i64 c] w fun e w' => e = .returned (.bool r) ∧ w = w' := by
  unfold inP at h
  by_cases h1 : c < 1
  · rw [if_pos (.inl h1)] at h
    subst h
    go_enter Try.func25, Try.ntmps25
    go_wp2
    go_ret
    exact ⟨rfl, rfl⟩
  · have g1 : decide (c < 1) = false := by simp; omega
    have g1' : 1 ≤ c := by omega
    by_cases h2 : i < f
    · rw [if_pos (.inr h2)] at h
      subst h
      clear h1
      go_enter Try.func25, Try.ntmps25
      go_wp2
      go_ret
      exact ⟨rfl, rfl⟩
    · have g2 : decide (i < f) = false := by simp; omega
      have g2' : f ≤ i := by omega
      rw [if_neg (by omega)] at h
      by_cases h3 : 0 ≤ f
      · have h4 : ¬ f < 0 := by omega
        simp [h3, h4] at h
        have HH := Lib.hid h
        clear h h1 h2 h4
        go_enter Try.func25, Try.ntmps25
        go_wp2
        all_goals
          go_ret
          refine ⟨?_, rfl⟩
          rw [← HH.out]
          first | rfl | (simp; omega) | (simp_all)
      · have h4 : f < 0 := by omega
        have g3 : decide (0 ≤ f) = false := by simp; omega
        simp [h3, h4] at h
        have HH := Lib.hid h
        clear h h1 h2 h3
        by_cases h5 : i < c
        · go_enter Try.func25, Try.ntmps25
          go_wp2
          all_goals
            go_ret
            refine ⟨?_, rfl⟩
            rw [← HH.out]
            first | rfl | (simp [h5]; done) | (simp_all; done) | (simp; omega)
        · have g5 : decide (i < c) = false := by simp; omega
          go_enter Try.func25, Try.ntmps25
          go_wp2
          all_goals
            go_ret
            refine ⟨?_, rfl⟩
            rw [← HH.out]
            first | rfl | (simp [h5]; done) | (simp_all; done) | (simp; omega)
theorem in_clip (i n : Nat) (f c : Int) (hi : i < n) : inP i f c = decide ((clipL f c n).1 ≤ i ∧ i < (clipL f c n).2) := by
  unfold inP clipL
  rw [Bool.eq_iff_iff]
  by_cases h1 : c < 1
  · simp [h1]
  · by_cases h2 : (n : Int) ≤ f
    · have : (i : Int) < f := by omega
      simp [h1, h2, this]
    · by_cases h3 : f < 0
      · have h4 : ¬ 0 ≤ f := by omega
        have h5 : ¬ (i : Int) < f := by omega
        rw [if_neg (by omega), if_neg (by omega), if_pos h3]
        simp [h3, h4]; omega
      · have h4 : 0 ≤ f := by omega
        by_cases h6 : (i : Int) < f
        · rw [if_pos (.inr h6), if_neg (by omega), if_neg h3]
          split <;> simp <;> omega
        · rw [if_neg (by omega), if_neg (by omega), if_neg h3]
          split <;> simp [h3, h4] <;> omega
/-- The values that the law computes by itself. -/
def wTo (vs : List Int) (a b : Nat) (x : Int) (k : Nat) : List Int := (List.range vs.length).map fun i => if i < k ∧ a ≤ i ∧ i < b then x else vs.getD i 0
theorem wTo_zero (vs : List Int) (a b : Nat) (x : Int) : wTo vs a b x 0 = vs := by
  apply List.ext_getElem
  · simp [wTo]
  · intro i h1 h2
    simp [wTo, List.getD, List.getElem?_eq_getElem h2]
theorem wTo_in (vs : List Int) (a b : Nat) (x : Int) (k : Nat) (hk : k < vs.length) (h : a ≤ k ∧ k < b) : wTo vs a b x (k + 1) = (wTo vs a b x k).set k x := by
  apply List.ext_getElem
  · simp [wTo]
  · intro i h1 h2
    simp only [wTo, List.getElem_map, List.getElem_range, List.getElem_set]
    by_cases e : k = i
    · subst e; simp [h]
    · rw [if_neg e]
      by_cases h3 : i < k
      · simp [h3, show i < k + 1 by omega]
      · rw [if_neg (by omega), if_neg (by omega)]
theorem wTo_out (vs : List Int) (a b : Nat) (x : Int) (k : Nat) (h : ¬ (a ≤ k ∧ k < b)) : wTo vs a b x (k + 1) = wTo vs a b x k := by
  unfold wTo
  apply List.map_congr_left
  intro i _
  by_cases e : i = k
  · subst e; rw [if_neg (by omega), if_neg (by omega)]
  · by_cases h3 : i < k
    · simp [h3, show i < k + 1 by omega]
    · rw [if_neg (by omega), if_neg (by omega)]
theorem set_expand (rs : List (Rn Int)) (vs : List Int) (a b : Nat) (x : Int) (hmx : Mx rs) (he : expand rs = vs) (hab : a ≤ b) (hb : b ≤ vs.length) (hv : vs.length ≤ 65536) : Mx (setL rs a b x) ∧ expand (setL rs a b x) = wTo vs a b x vs.length := by
  have h1 := pushL_Mx (partL rs 0 a) (b - a, x) (partL_Mx rs 0 a hmx)
  obtain ⟨h2, h3⟩ := foldl_push (partL rs b 65536) _ h1
  refine ⟨h2, ?_⟩
  rw [setL, h3, pushL_expand, partL_expand, partL_expand, he]
  apply List.ext_getElem?
  intro i
  simp only [wTo, List.drop_zero, List.getElem?_map]
  rw [List.take_of_length_le (l := vs) hv]
  by_cases hi : i < vs.length
  · rw [List.getElem?_range hi]
    simp only [Option.map_some, hi, true_and]
    by_cases h4 : i < a
    · rw [List.append_assoc, List.getElem?_append_left (by simp; omega), List.getElem?_take, if_pos h4, if_neg (by omega)]
      simp [List.getD, List.getElem?_eq_getElem hi]
    · by_cases h5 : i < b
      · rw [List.append_assoc, List.getElem?_append_right (by simp; omega), List.getElem?_append_left (by simp; omega), List.getElem?_replicate, if_pos (by simp; omega), if_pos (by omega)]
      · rw [List.getElem?_append_right (by simp; omega), List.getElem?_drop, if_neg (by omega)]
        simp only [List.length_append, List.length_take, List.length_replicate]
        rw [show b + (i - (min a vs.length + (b - a))) = i by omega]
        simp [List.getD, List.getElem?_eq_getElem hi]
  · rw [List.getElem?_eq_none (by simp; omega), List.getElem?_eq_none (by simp; omega)]
    rfl

theorem Box.belowB {w w' : World} {b B : Nat} {cs : Array Value} (h : Box w b cs) (hb : Below B w w') (hl : b < B) : Box w' b cs :=
  ⟨fun i => (hb.cell (p := ⟨b, i, none⟩) hl).trans (h.1 i), fun i => (hb.frozen (p := ⟨b, i, none⟩) hl).trans (h.2.1 i), Nat.lt_of_lt_of_le h.2.2 hb.size⟩
set_option maxRecDepth 100000 in
set_option maxHeartbeats 2000000 in
theorem lawSet_any (l : List Int) (A : Option Addr) (n c : Nat) (f k x0 : Int) (w : World) (hr : Rd w w.heap.size 1 A n (i64s l)) (hm : n ≤ maxLen) (hf1 : -9223372036854775808 ≤ f) (hf2 : f ≤ 9223372036854775807) (hc1 : -9223372036854775808 ≤ k) (hc2 : k ≤ 9223372036854775807) :
    Calls Try.prog 8 #[.slice A n c, .int .i64 f, .int .i64 k, .int .i64 x0] w fun e w' => e = .returned (.bool true) ∧ Below w.heap.size w w' := by
  obtain ⟨vs, hv⟩ : ∃ vs, vals l = vs := ⟨_, rfl⟩
  obtain ⟨m, hvm⟩ : ∃ m, vs.length = m := ⟨_, rfl⟩
  have hm40 : m ≤ 40 := by rw [← hvm, ← hv, vals]; simp; omega
  obtain ⟨rs, hrs⟩ : ∃ rs, ofL vs = rs := ⟨_, rfl⟩
  have hsp := ofL_spec vs
  have hln := ofL_length vs
  have htt := ofL_tot vs
  rw [hrs] at hsp hln htt
  rw [hvm] at hln htt
  obtain ⟨rn, hrn⟩ : ∃ rn, rs.length = rn := ⟨_, rfl⟩
  obtain ⟨x, hx⟩ : ∃ x, x0 % 5 = x := ⟨_, rfl⟩
  obtain ⟨a, b, hab⟩ : ∃ a b, clipL f k m = (a, b) := ⟨_, _, rfl⟩
  have hbd := clipL_bd f k m
  rw [hab] at hbd
  simp only at hbd
  have hin := fun (i : Nat) (hi : i < m) => in_clip i m f k hi
  rw [hab] at hin
  simp only at hin
  obtain ⟨hs1, hs2⟩ := set_expand rs vs a b x hsp.1 hsp.2 hbd.1 (by omega) (by omega)
  obtain ⟨ss, hss⟩ : ∃ ss, setL rs a b x = ss := ⟨_, rfl⟩
  rw [hss] at hs1 hs2
  rw [hvm] at hs2
  have hsl : ss.length ≤ 100 := by
    rw [← hss, setL]
    have h1 := foldl_push_length (partL rs b 65536) (pushL (partL rs 0 a) (b - a, x))
    have h2 := pushL_length (partL rs 0 a) (b - a, x)
    have h3 := partGo_length b 65536 0 rs
    have h4 := partGo_length 0 a 0 rs
    have h5 : (partL rs b 65536).length ≤ rs.length := h3
    have h6 : (partL rs 0 a).length ≤ rs.length := h4
    omega
  obtain ⟨sn, hsn⟩ : ∃ sn, ss.length = sn := ⟨_, rfl⟩
  have hwl : (wTo vs a b x m).length = m := by simp [wTo, hvm]
  have HV := Lib.hid (values_any l A n c _ w hr hm vs hv m hvm)
  have HM := Lib.hid (fun w => mod_eq x0 5 x (by omega) (by omega) hx w)
  have HO := Lib.hid (fun (W : World) (A : Option Addr) (c : Nat) (h : Rd W W.heap.size 1 A m (i64s vs)) => of_any vs A m c _ W h (by omega))
  rw [hrs] at HO
  have HSET := Lib.hid (fun (W : World) (A : Option Addr) (c : Nat) (h : Rd W W.heap.size 2 A rn (rnCells rs)) => set_any rs A rn c _ f k x W h (by omega) (by omega) hf1 hf2 hc1 hc2)
  rw [htt, hab] at HSET
  simp only [hss] at HSET
  have HIN := Lib.hid (fun (W : World) (i : Nat) (hi : i < m) (r : Bool) (hr : decide (a ≤ i ∧ i < b) = r) => in_any i f k r W (by omega) (by omega) hf1 hf2 hc1 hc2 (by rw [hin i hi, hr]))
  have HIa := Lib.hid (fun (A A2 : Option Addr) (c c2 B B2 : Nat) (W : World) (h1 : Rd W B 2 A rn (rnCells rs)) (h2 : Rd W B2 1 A2 m (i64s vs)) => is_any rs vs A A2 rn c B m c2 B2 W h1 h2 hsp.1 hsp.2 (by omega) (by omega))
  have HIb := Lib.hid (fun (A A2 : Option Addr) (c c2 B B2 : Nat) (W : World) (h1 : Rd W B 2 A sn (rnCells ss)) (h2 : Rd W B2 1 A2 m (i64s (wTo vs a b x m))) => is_any ss _ A A2 sn c B m c2 B2 W h1 h2 hs1 hs2 (by omega) (by omega))
  have HRN := Lib.hid hrn
  have HSN := Lib.hid hsn
  have HVM := Lib.hid hvm
  clear hr hv hvm hrs hsp hrn hln htt hx hab hbd hin hs1 hs2 hss hsl hsn hwl hf1 hf2 hc1 hc2
  go_enter Try.func8, Try.ntmps8
  go_wp2_with fail
  refine HV.out.mono ?_
  rintro e w1 ⟨A1, c1, rfl, hown1, hb1⟩
  have hR1 := Rd.of_own hown1
  clear hown1
  go_wp2_with fail
  refine (HM.out _).mono ?_
  rintro e w' ⟨rfl, rfl⟩
  go_wp2_with fail
  refine (HO.out _ _ _ hR1).mono ?_
  intro e w2 h
  obtain ⟨A2, c2, rfl, hR2, hb2⟩ := h.open_ rn HRN.out
  have hbw2 := ext_trans hb1 hb2
  have hV2 := (hR1.below hb2 (Nat.le_refl _)).more hb2.size
  have hsw : w.heap.size ≤ w2.heap.size := hbw2.size
  have HR2 := Lib.hid (hR2.alloc' (.cells #[.slice A2 rn c2] 38) (Nat.le_refl _))
  have HV2 := Lib.hid (hV2.alloc' (.cells #[.slice A2 rn c2] 38) (Nat.le_refl _))
  have hbw3 := ext_alloc hbw2 (.cells #[.slice A2 rn c2] 38)
  have hz2 : (w2.alloc (.cells #[.slice A2 rn c2] 38)).heap.size = w2.heap.size + 1 := by simp
  clear h hR1 hb1 hb2 hR2 hV2 hbw2 HV HM HO
  go_wp2_with fail
  refine (HSET.out _ _ _ (HR2.out.more (by simp))).mono ?_
  intro e w3 h
  obtain ⟨A3, c3, rfl, hR3, hb3⟩ := h.open_ sn HSN.out
  have hBa := Box.new hb3
  have HBa := Lib.hid (hBa.alloc' (.cells #[.slice A3 sn c3] 38))
  have HR2' := Lib.hid ((HR2.out.below hb3 (by simp)).alloc' (.cells #[.slice A3 sn c3] 38) (by have := hb3.size; simp at this; omega))
  have HV2' := Lib.hid ((HV2.out.below hb3 (by simp)).alloc' (.cells #[.slice A3 sn c3] 38) (by have := hb3.size; simp at this; omega))
  have HR3 := Lib.hid (hR3.alloc' (.cells #[.slice A3 sn c3] 38) (Nat.le_refl _))
  have HBb := Lib.hid (Box.alloc_ (w := w3) (cs := #[.slice A3 sn c3]) (e := 38))
  have hbw4 := ext_alloc (ext_trans hbw3 hb3) (.cells #[.slice A3 sn c3] 38)
  have hs3 : w2.heap.size + 1 ≤ w3.heap.size := by have := hb3.size; simpa using this
  clear h hb3 hR3 hBa HR2 HV2 hbw3 HSET
  have hz3 : w3.heap.size + 1 ≤ (w3.alloc (.cells #[.slice A3 sn c3] 38)).heap.size := by simp
  have HZ3 := Lib.hid hz3
  clear hz3 hz2
  go_wp2_with (at_builtin; refine wpList_appR (.const (.slice none 0 0)) (.tmp 25) 33 (w3.heap.size + 1) 3 _ 1 8 _ 0 [] _ A1 m c1 _ Try.underlying33 intInfo rfl (by decide) rfl rfl rfl rfl (World.ownsRow_nil _ _ _ _) HV2'.out (one_i64 _) (by omega) (by omega) HZ3.out ?_; intro v5 w5 hown5 hg5 hb5)
  simp only [Nat.zero_add, List.nil_append] at hown5
  obtain ⟨A5, c5, rfl, _, _⟩ := own_form hown5
  have HR2'' := Lib.hid (HR2'.out.below hb5 (by omega))
  have HV2'' := Lib.hid (HV2'.out.below hb5 (by omega))
  have HR3' := Lib.hid (HR3.out.below hb5 (by omega))
  have h4s : (w3.alloc (.cells #[.slice A3 sn c3] 38)).heap.size = w3.heap.size + 1 := by simp
  have hb5' : Below (w3.alloc (.cells #[.slice A3 sn c3] 38)).heap.size (w3.alloc (.cells #[.slice A3 sn c3] 38)) w5 := by rw [h4s]; exact hb5
  have HBa5 := Lib.hid (HBa.out.below hb5')
  have HBb5 := Lib.hid (HBb.out.below hb5')
  have hbw5 := ext_trans hbw4 hb5'
  have hs5 : w3.heap.size + 1 ≤ w5.heap.size := by have := hb5.size; rw [h4s] at this; exact this
  clear hb5 hb5' h4s hg5 HR2' HV2' HR3 HBa HBb hbw4 HZ3
  go_wp2_with fail
  go_loopw [13] (fun i wr => ∃ j : Nat, j ≤ m ∧ i = .int .i64 j ∧ wr.ownsRow (w3.heap.size + 1) 3 1 (.slice A5 m c5) m (i64s (wTo vs a b x j)) ∧ Below (w3.heap.size + 1) w5 wr) (fun i _ => m - (intOf i).toNat)
  case atStart => exact ⟨0, by omega, rfl, by rw [wTo_zero]; exact hown5, Below.refl _ _⟩
  case round =>
    obtain ⟨j, hj, rfl, hown, hbr⟩ := hrel
    clear hown5
    by_cases hlt : j < m
    · obtain ⟨g, cap, hv, hgb, hgl⟩ := hown.form (by omega)
      injection hv with hA _ hcc
      subst hA hcc
      by_cases hi : a ≤ j ∧ j < b
      · have HI := Lib.hid (HIN.out wr j hlt true (by simpa using hi))
        have hnx := wTo_in vs a b x j (by rw [HVM.out]; exact hlt) hi
        have HNX := Lib.hid hnx
        have hf := hown.frozenAt j
        have hc : wr.cell? ⟨g, j, none⟩ = some (.int .i64 ((wTo vs a b x j).getD j 0)) := by
          rw [hown.cellAt j (by omega)]
          have : j < (wTo vs a b x j).length := by simp [wTo, HVM.out, hlt]
          simp [List.getD, List.getElem?_eq_getElem this]
        obtain ⟨y, hy⟩ : ∃ y, (wTo vs a b x j).getD j 0 = y := ⟨_, rfl⟩
        rw [hy] at hc
        have HOW := Lib.hid hown
        clear hi hnx hy hown
        go_wp2_with fail
        refine HI.out.mono ?_
        rintro e w' ⟨rfl, rfl⟩
        go_wp2
        refine ⟨⟨j + 1, by omega, by go_num, ?_, hbr.setCell (by exact hgb) _⟩, by simp [intOf]; omega⟩
        have e : i64s ((wTo vs a b x j).set j x) = (i64s (wTo vs a b x j)).set j (.int .i64 x) := List.map_set
        rw [HNX.out, e]
        exact (HOW.out.stored j _).1
      · have HI := Lib.hid (HIN.out wr j hlt false (by simpa using hi))
        have hnx := wTo_out vs a b x j hi
        have HNX := Lib.hid hnx
        have HOW := Lib.hid hown
        clear hi hnx hown
        go_wp2_with fail
        refine HI.out.mono ?_
        rintro e w' ⟨rfl, rfl⟩
        go_wp2
        exact ⟨⟨j + 1, by omega, by go_num, by rw [HNX.out]; exact HOW.out, hbr⟩, by simp [intOf]; omega⟩
    · obtain rfl : j = m := by omega
      have hbb : w.heap.size ≤ w3.heap.size + 1 := by omega
      have hbr5 : Below w.heap.size w wr := hbw5.trans (hbr.mono hbb)
      have R2 := Lib.hid (HR2''.out.below hbr (by omega))
      have V2 := Lib.hid (HV2''.out.below hbr (by omega))
      have R3 := Lib.hid (HR3'.out.below hbr (by omega))
      have W5 := Lib.hid (Rd.of_own hown)
      have BA := Lib.hid (HBa5.out.belowB hbr (by omega))
      have BB := Lib.hid (HBb5.out.belowB hbr (by omega))
      clear hown hbr HR2'' HV2'' HR3' HBa5 HBb5 hbw5
      go_wp2_with fail
      refine (awake_any _).mono ?_
      rintro e w6 ⟨rfl, hb6⟩
      have hbw6 := ext_trans hbr5 hb6
      have R2' := Lib.hid (R2.out.below hb6 (by have := BB.out.2.2; omega))
      have V2' := Lib.hid (V2.out.below hb6 (by have := BB.out.2.2; omega))
      have BA' := Lib.hid (BA.out.below hb6)
      obtain ⟨q1, z1, l1⟩ := BB.out.below hb6
      have HI1 := Lib.hid (HIb.out _ _ c3 c5 _ _ w6 (R3.out.below hb6 (by have := BB.out.2.2; omega)) (W5.out.below hb6 (Nat.le_refl _)))
      have hs6 := hb6.size
      have hsb := BB.out.2.2
      clear hb6 hbr5 R2 V2 BA BB R3 W5 HIb
      go_wp2_with fail
      refine HI1.out.mono ?_
      rintro e w7 ⟨rfl, hb7⟩
      have hbw7 := ext_trans hbw6 hb7
      have HI2 := Lib.hid (HIa.out _ _ c2 c1 _ _ w7 (R2'.out.below hb7 (by omega)) (V2'.out.below hb7 (by omega)))
      obtain ⟨q2, z2, l2⟩ := BA'.out.below hb7
      clear hb7 q1 z1 l1 HI1 R2' V2' BA' hbw6
      go_wp2_with fail
      refine HI2.out.mono ?_
      rintro e w8 ⟨rfl, hb8⟩
      go_wp2
      go_ret
      exact ⟨rfl, ext_trans hbw7 hb8⟩
theorem lawSetI (l : List Int) (A : Option Addr) (c : Nat) (f k x : Int) (w : World) (hr : Rd w w.heap.size 1 A l.length (l.map fun x => [Value.int .i64 x]).flatten) (hlc : l.length ≤ c) (hc : c ≤ maxLen) (hf : (Lit.int .i64 f).wf = true) (hk : (Lit.int .i64 k).wf = true) :
    Calls Try.prog 8 #[.slice A l.length c, .int .i64 f, .int .i64 k, .int .i64 x] w fun e w' => e = .returned (.bool true) ∧ Below w.heap.size w w' :=
  lawSet_any l A _ c f k x w (by rwa [flatten_one] at hr) (by omega) (wf_i64' hf).1 (wf_i64' hf).2 (wf_i64' hk).1 (wf_i64' hk).2
end Go.Proofs.Ytjbbkhoonenfjaa

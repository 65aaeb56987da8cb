/- Layer 4: Count; the law RunsCount. -/
import Derived.Test.YtjbbkhoonenfjaaRunA
set_option linter.unusedVariables false
set_option linter.unusedSimpArgs false
namespace Go.Proofs.Ytjbbkhoonenfjaa
open Go.RowKit

def cnt (x : Int) (l : List Int) : Nat := l.count x
theorem cnt_le (x : Int) (l : List Int) : cnt x l ≤ l.length := List.count_le_length
theorem cnt_expand_snoc (x : Int) (rs : List (Rn Int)) (k : Nat) (hk : k < rs.length) : cnt x (expand (rs.take (k + 1))) = cnt x (expand (rs.take k)) + (if rs[k].2 = x then rs[k].1 else 0) := by
  rw [List.take_succ_eq_append_getElem hk, expand_append, cnt, List.count_append]
  congr 1
  simp only [expand, List.append_nil, List.count_replicate]
  simp
set_option maxHeartbeats 1000000 in
theorem count_any (rs : List (Rn Int)) (A : Option Addr) (n c B : Nat) (x : Int) (w : World) (hr : Rd w B 2 A n (rnCells rs)) (hn : n ≤ 1000000) (hb : tot rs ≤ 1000000) (t : Nat) (ht : cnt x (expand rs) = t) :
    Calls Try.prog 22 #[lv A n c, .int .i64 x] w fun e w' => e = .returned (.int .i64 t) ∧ Below w.heap.size w w' := by
  have hr := hr.fits (by decide)
  have hl := hr.rlen
  have HR := Lib.hid hr
  have HT := Lib.hid ht
  have HL := Lib.hid hl
  clear hr ht hl
  go_enter Try.func22, Try.ntmps22
  go_wp2
  go_loopw [5, 11] (fun s i wr => ∃ k : Nat, k ≤ n ∧ i = .int .i64 k ∧ s = .int .i64 (cnt x (expand (rs.take k))) ∧ Below w.heap.size w wr) (fun _ i _ => n - (intOf i).toNat)
  case atStart => exact ⟨0, by omega, rfl, rfl, (Below.refl _ _).alloc (Nat.le_refl _) _⟩
  case round =>
    obtain ⟨k, hk, rfl, rfl, hbw⟩ := hrel
    have hbd : cnt x (expand (rs.take k)) ≤ 1000000 := by
      have h1 := cnt_le x (expand (rs.take k))
      rw [expand_length] at h1
      have := tot_take rs k
      omega
    by_cases hlt : k < n
    · obtain ⟨b, off, rfl, hbl, hk', c0, c1⟩ := rn_cells (HR.out.below hbw (Nat.le_refl _)) k hlt
      have hsn := cnt_expand_snoc x rs k hk'
      have hr1b : rs[k].1 ≤ 1000000 := by
        have h1 := tot_snoc rs k hk'
        have h2 := tot_take rs (k + 1)
        omega
      obtain ⟨r1, hr1⟩ : ∃ r1, rs[k].1 = r1 := ⟨_, rfl⟩
      obtain ⟨r2, hr2⟩ : ∃ r2, rs[k].2 = r2 := ⟨_, rfl⟩
      rw [hr1] at c0 hsn hr1b
      rw [hr2] at c1 hsn
      by_cases hx : r2 = x
      · rw [if_pos hx] at hsn
        have HSN := Lib.hid hsn
        subst hx
        clear hsn hr1 hr2
        go_wp2
        exact ⟨⟨k + 1, by omega, by go_num, by rw [HSN.out]; go_num, hbw.alloc hbw.size _⟩, by simp [intOf]; omega⟩
      · rw [if_neg hx, Nat.add_zero] at hsn
        have HSN := Lib.hid hsn
        have hx' : (r2 == x) = false := by simpa using hx
        clear hsn hr1 hr2 hx
        go_wp2
        exact ⟨⟨k + 1, by omega, by go_num, by rw [HSN.out]; rfl, hbw.alloc hbw.size _⟩, by simp [intOf]; omega⟩
    · obtain rfl : k = n := by omega
      go_wp2
      go_ret
      exact ⟨by rw [List.take_of_length_le (by rw [HL.out]; omega), HT.out]; rfl, hbw⟩

def sumTo (vs : List Int) : Nat → Nat
  | 0 => 0
  | x + 1 => sumTo vs x + cnt x vs
theorem sumTo_eq (vs : List Int) : sumTo vs 4 = cnt 0 vs + cnt 1 vs + cnt 2 vs + cnt 3 vs := by
  simp [sumTo]
theorem sumTo_four (vs : List Int) (h : ∀ v ∈ vs, 0 ≤ v ∧ v ≤ 3) : sumTo vs 4 = vs.length := by
  rw [sumTo_eq]
  induction vs with
  | nil => rfl
  | cons v t ih =>
    have h1 := ih (fun x hx => h x (by simp [hx]))
    have h2 := h v (by simp)
    simp only [cnt, List.count_cons, List.length_cons] at h1 ⊢
    have h3 : v = 0 ∨ v = 1 ∨ v = 2 ∨ v = 3 := by omega
    rcases h3 with rfl | rfl | rfl | rfl <;> simp <;> omega
theorem cnt_nine (vs : List Int) (h : ∀ v ∈ vs, 0 ≤ v ∧ v ≤ 3) : cnt 9 vs = 0 := by
  unfold cnt
  rw [List.count_eq_zero]
  intro hx
  have := h 9 hx
  omega
theorem vals_bd (l : List Int) : ∀ v ∈ vals l, 0 ≤ v ∧ v ≤ 3 := by
  intro v hv
  unfold vals at hv
  obtain ⟨x, _, rfl⟩ := List.mem_map.1 hv
  omega
theorem cnt_snoc (x : Int) (vs : List Int) (k : Nat) (hk : k < vs.length) : cnt x (vs.take (k + 1)) = cnt x (vs.take k) + (if vs.getD k 0 = x then 1 else 0) := by
  rw [List.take_succ_eq_append_getElem hk, cnt, List.count_append]
  simp [cnt, List.getD, List.getElem?_eq_getElem hk, List.count_cons]

set_option maxRecDepth 100000 in
set_option maxHeartbeats 2000000 in
theorem lawCount_any (l : List Int) (A : Option Addr) (n c : Nat) (w : World) (hr : Rd w w.heap.size 1 A n (i64s l)) (hm : n ≤ maxLen) :
    Calls Try.prog 5 #[.slice A n c] w fun e w' => e = .returned (.bool true) ∧ Below w.heap.size w w' := by
  obtain ⟨vs, hv⟩ : ∃ vs, vals l = vs := ⟨_, rfl⟩
  obtain ⟨m, hvm⟩ : ∃ m, vs.length = m := ⟨_, rfl⟩
  have hm40 : m ≤ 40 := by rw [← hvm, ← hv, vals]; simp; omega
  have hvb := vals_bd l
  rw [hv] at hvb
  obtain ⟨rs, hrs⟩ : ∃ rs, ofL vs = rs := ⟨_, rfl⟩
  have hsp := ofL_spec vs
  have hln := ofL_length vs
  have htt := ofL_tot vs
  rw [hrs] at hsp hln htt
  rw [hvm] at hln htt
  obtain ⟨rn, hrn⟩ : ∃ rn, rs.length = rn := ⟨_, rfl⟩
  have HV := Lib.hid (values_any l A n c _ w hr hm vs hv m hvm)
  have HO := Lib.hid (fun (W : World) (A : Option Addr) (c : Nat) (h : Rd W W.heap.size 1 A m (i64s vs)) => of_any vs A m c _ W h (by omega))
  rw [hrs] at HO
  have HC := Lib.hid (fun (W : World) (A : Option Addr) (c B : Nat) (x : Int) (t : Nat) (ht : cnt x vs = t) (h : Rd W B 2 A rn (rnCells rs)) => count_any rs A rn c B x W h (by omega) (by omega) t (by rw [hsp.2]; exact ht))
  have HL := Lib.hid (fun (W : World) (A : Option Addr) (c B : Nat) (h : Rd W B 2 A rn (rnCells rs)) => len_any rs A rn c B W h (by omega) m htt (by omega))
  have H4 := Lib.hid (sumTo_four vs hvb)
  have H9 := Lib.hid (cnt_nine vs hvb)
  have HRN := Lib.hid hrn
  have HVM := Lib.hid hvm
  clear hr hv hvm hrs hsp hrn hln htt hvb
  go_enter Try.func5, Try.ntmps5
  go_wp2_with fail
  refine HV.out.mono ?_
  rintro e w1 ⟨A1, c1, rfl, hown1, hb1⟩
  have hR1 := Rd.of_own hown1
  clear hown1
  go_wp2_with fail
  refine (HO.out _ _ _ hR1).mono ?_
  intro e w2 h
  obtain ⟨A2, c2, rfl, hR2, hb2⟩ := h.open_ rn HRN.out
  have hV2 := Lib.hid (((hR1.below hb2 (Nat.le_refl _)).more hb2.size).alloc' (.cells #[.slice A2 rn c2] 38) (Nat.le_refl _))
  have HR2 := Lib.hid (hR2.alloc' (.cells #[.slice A2 rn c2] 38) (Nat.le_refl _))
  have HB2 := Lib.hid (Box.alloc_ (w := w2) (cs := #[.slice A2 rn c2]) (e := 38))
  have hbw2 := ext_alloc (ext_trans hb1 hb2) (.cells #[.slice A2 rn c2] 38)
  obtain ⟨W0, hW0⟩ : ∃ W0, w2.alloc (.cells #[.slice A2 rn c2] 38) = W0 := ⟨_, rfl⟩
  rw [hW0] at hV2 HR2 HB2 hbw2
  have hs0 : w2.heap.size < W0.heap.size := HB2.out.2.2
  clear h hR1 hb1 hb2 hR2 HV HO
  go_wp2_with fail
  clear hW0
  go_loopw [5, 6] (fun s x wr => ∃ i : Nat, i ≤ 4 ∧ x = .int .i64 i ∧ s = .int .i64 (sumTo vs i) ∧ sumTo vs i ≤ i * 40 ∧ Below W0.heap.size W0 wr) (fun _ x _ => 4 - (intOf x).toNat)
  case atStart => exact ⟨0, by omega, rfl, rfl, by simp [sumTo], Below.refl _ _⟩
  case round =>
    obtain ⟨i, hi, rfl, rfl, hsb, hbr⟩ := hrel
    by_cases hlt : i < 4
    · go_wp2_with fail
      obtain ⟨wo, hwo⟩ : ∃ wo : World, wo = wr := ⟨_, rfl⟩
      subst hwo
      go_loopw [7, 8] (fun t j wq => ∃ k : Nat, k ≤ m ∧ j = .int .i64 k ∧ t = .int .i64 (cnt i (vs.take k)) ∧ Below W0.heap.size W0 wq) (fun _ j _ => m - (intOf j).toNat)
      case atStart => exact ⟨0, by omega, rfl, rfl, hbr⟩
      case round =>
        obtain ⟨k, hk, rfl, rfl, hbq⟩ := hrel
        clear hbr
        have hcb : cnt i (vs.take k) ≤ 40 := by
          have h1 := cnt_le i (vs.take k)
          have h2 := List.length_take_le k vs
          omega
        by_cases hlt2 : k < m
        · obtain ⟨b, off, rfl, _, c0⟩ := int_at (hV2.out.below hbq (by omega)) k hlt2
          have hsn := cnt_snoc i vs k (by rw [HVM.out]; exact hlt2)
          obtain ⟨y, hy⟩ : ∃ y, vs.getD k 0 = y := ⟨_, rfl⟩
          rw [hy] at c0 hsn
          by_cases hyi : y = (i : Int)
          · rw [if_pos hyi] at hsn
            have HSN := Lib.hid hsn
            have hd : (y == (i : Int)) = true := by simpa using hyi
            clear hsn hy hyi
            go_wp2
            exact ⟨⟨k + 1, by omega, by go_num, by rw [HSN.out]; go_num, hbq⟩, by simp [intOf]; omega⟩
          · rw [if_neg hyi, Nat.add_zero] at hsn
            have HSN := Lib.hid hsn
            have hd : (y == (i : Int)) = false := by simpa using hyi
            clear hsn hy hyi
            go_wp2
            exact ⟨⟨k + 1, by omega, by go_num, by rw [HSN.out]; rfl, hbq⟩, by simp [intOf]; omega⟩
        · obtain rfl : k = m := by omega
          have hte : vs.take k = vs := List.take_of_length_le (by rw [HVM.out]; omega)
          have HTE := Lib.hid hte
          obtain ⟨t, ht⟩ : ∃ t, cnt i vs = t := ⟨_, rfl⟩
          rw [hte, ht] at hcb ⊢
          have HT := Lib.hid ht
          obtain ⟨q1, z1, l1⟩ := HB2.out.below hbq
          have HCC := Lib.hid (HC.out _ A2 c2 _ i t ht (HR2.out.below hbq (by omega)))
          clear hte ht
          go_wp2_with fail
          refine HCC.out.mono ?_
          rintro e w5 ⟨rfl, hb5⟩
          have hbr5 := ext_trans hbq hb5
          clear hb5 q1 z1 l1 HCC
          go_wp2
          exact ⟨⟨i + 1, by omega, by go_num, by rw [sumTo, HT.out]; go_num, by rw [sumTo, HT.out]; omega, hbr5⟩, by simp [intOf]; omega⟩
    · obtain rfl : i = 4 := by omega
      have hfin : sumTo vs 4 = m := by rw [H4.out, HVM.out]
      rw [hfin]
      have hbw := ext_trans hbw2 hbr
      have HR3 := Lib.hid (HR2.out.below hbr (by omega))
      have HB3 := Lib.hid (HB2.out.below hbr)
      have hs3 := hbr.size
      clear hfin hsb
      go_wp2_with fail
      refine (awake_any _).mono ?_
      rintro e w5 ⟨rfl, hb5⟩
      have HB5 := Lib.hid (HB3.out.below hb5)
      have HR5 := Lib.hid (HR3.out.below hb5 (by omega))
      obtain ⟨q1, z1, l1⟩ := HB5.out
      have hbw5 := ext_trans hbw hb5
      have hs5 := hb5.size
      clear hb5
      go_wp2_with fail
      refine (HL.out _ A2 c2 _ HR5.out).mono ?_
      rintro e w6 ⟨rfl, hb6⟩
      have HR6 := Lib.hid (HR5.out.below hb6 (by omega))
      have hbw6 := ext_trans hbw5 hb6
      obtain ⟨q2, z2, l2⟩ := HB5.out.below hb6
      clear hb6 q1 z1 l1
      go_wp2_with fail
      refine (HC.out _ A2 c2 _ 9 0 H9.out HR6.out).mono ?_
      rintro e w7 ⟨rfl, hb7⟩
      go_wp2
      go_ret
      exact ⟨rfl, ext_trans hbw6 hb7⟩
theorem lawCountI (l : List Int) (A : Option Addr) (c : Nat) (w : World) (hr : Rd w w.heap.size 1 A l.length (l.map fun x => [Value.int .i64 x]).flatten) (hlc : l.length ≤ c) (hc : c ≤ maxLen) :
    Calls Try.prog 5 #[.slice A l.length c] w fun e w' => e = .returned (.bool true) ∧ Below w.heap.size w w' :=
  lawCount_any l A _ c w (by rwa [flatten_one] at hr) (by omega)
end Go.Proofs.Ytjbbkhoonenfjaa

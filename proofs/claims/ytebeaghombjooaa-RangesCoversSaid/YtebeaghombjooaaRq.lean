/- Layer 12: the law RangesAlgebra. -/
import Derived.Test.YtebeaghombjooaaRo
set_option linter.unusedVariables false
set_option linter.unusedSimpArgs false
namespace Go.Proofs.Ytebeaghombjooaa
open Go.RowKit

/-- Lists that are kept. -/
def Keep (w : World) (P : List (Option Addr × List Rg)) : Prop := ∀ x ∈ P, Rd w w.heap.size 2 x.1 x.2.length (rgCells x.2)
theorem Keep.nil {w : World} : Keep w [] := fun x hx => by cases hx
theorem Keep.below {w w' : World} {P : List (Option Addr × List Rg)} (h : Keep w P) (hb : Below w.heap.size w w') : Keep w' P := fun x hx => ((h x hx).below hb (Nat.le_refl _)).more hb.size
theorem Keep.cons {w : World} {P : List (Option Addr × List Rg)} {A : Option Addr} {l : List Rg} (hr : Rd w w.heap.size 2 A l.length (rgCells l)) (h : Keep w P) : Keep w ((A, l) :: P) := fun x hx => by
  rcases List.mem_cons.1 hx with rfl | hx
  · exact hr
  · exact h x hx
theorem Keep.get {w : World} {P : List (Option Addr × List Rg)} (h : Keep w P) (A : Option Addr) (l : List Rg) (hx : (A, l) ∈ P) : Rd w w.heap.size 2 A l.length (rgCells l) := h _ hx

theorem set_close (f : Nat → Bool) (N : Nat) (hN : N ≤ 65536) : setL (closeTo f N) = closeTo f N := by rw [setL, if_pos (closeTo_spec f N hN).1.valid]
theorem sum_close (f : Nat → Bool) (N : Nat) (hN : N ≤ 65536) : sumL (setL (closeTo f N)) = cntF f N := by rw [set_close f N hN, (closeTo_spec f N hN).2.2]
theorem join0 (f g : Nat → Bool) (N : Nat) (hN : N ≤ 65536) : closeTo (joinF 0 (openF (closeTo f N)) (openF (closeTo g N)) N) N = closeTo (fun i => f i || g i) N :=
  closeTo_congr _ _ _ fun i hi => by rw [joinF, if_pos hi, openF_close _ _ _ hN hi, openF_close _ _ _ hN hi]; rfl
theorem join1 (f g : Nat → Bool) (N : Nat) (hN : N ≤ 65536) : closeTo (joinF 1 (openF (closeTo f N)) (openF (closeTo g N)) N) N = closeTo (fun i => f i && g i) N :=
  closeTo_congr _ _ _ fun i hi => by rw [joinF, if_pos hi, openF_close _ _ _ hN hi, openF_close _ _ _ hN hi]; rfl
theorem join2 (f g : Nat → Bool) (N : Nat) (hN : N ≤ 65536) : closeTo (joinF 2 (openF (closeTo f N)) (openF (closeTo g N)) N) N = closeTo (fun i => f i && !g i) N :=
  closeTo_congr _ _ _ fun i hi => by rw [joinF, if_pos hi, openF_close _ _ _ hN hi, openF_close _ _ _ hN hi]; rfl
/-- The algebra of five lists. -/
theorem alg (x y : List Int) (N : Nat) (hN : N = 65536) : ∃ a b u i d : List Rg, closeTo (ofF x) N = a ∧ closeTo (ofF y) N = b ∧
    closeTo (joinF 0 (openF a) (openF b) N) N = u ∧ closeTo (joinF 1 (openF a) (openF b) N) N = i ∧ closeTo (joinF 2 (openF a) (openF b) N) N = d ∧
    closeTo (joinF 0 (openF d) (openF i) N) N = a ∧ closeTo (joinF 1 (openF d) (openF i) N) N = [] ∧ closeTo (joinF 0 (openF b) (openF a) N) N = u ∧
    sumL (setL u) + sumL (setL i) = sumL (setL a) + sumL (setL b) ∧ sumL (setL d) + sumL (setL i) = sumL (setL a) ∧
    validL u = true ∧ validL i = true ∧ validL d = true ∧ a.length ≤ 65536 ∧ b.length ≤ 65536 ∧ u.length ≤ 65536 ∧ i.length ≤ 65536 ∧ d.length ≤ 65536 ∧
    (0 ≤ sumL (setL u) ∧ sumL (setL u) ≤ 65537) ∧ (0 ≤ sumL (setL i) ∧ sumL (setL i) ≤ 65537) ∧ (0 ≤ sumL (setL d) ∧ sumL (setL d) ≤ 65537) ∧ (0 ≤ sumL (setL a) ∧ sumL (setL a) ≤ 65537) ∧ (0 ≤ sumL (setL b) ∧ sumL (setL b) ≤ 65537) := by
  have hN' : N ≤ 65536 := by omega
  generalize ofF x = f
  generalize ofF y = g
  have hl : ∀ h : Nat → Bool, (closeTo h N).length ≤ 65536 := fun h => Nat.le_trans (closeTo_len h N) hN'
  have hs : ∀ h : Nat → Bool, 0 ≤ sumL (setL (closeTo h N)) ∧ sumL (setL (closeTo h N)) ≤ 65537 := fun h => by
    have := validGo_sum 0 (setL (closeTo h N)) (by omega) (by omega) (setL_valid _) (setL (closeTo h N)).length
    rw [List.take_length] at this
    omega
  refine ⟨closeTo f N, closeTo g N, closeTo (fun i => f i || g i) N, closeTo (fun i => f i && g i) N, closeTo (fun i => f i && !g i) N, rfl, rfl, join0 f g N hN', join1 f g N hN', join2 f g N hN', ?_, ?_, ?_, ?_, ?_, (closeTo_spec _ N hN').1.valid, (closeTo_spec _ N hN').1.valid, (closeTo_spec _ N hN').1.valid, hl _, hl _, hl _, hl _, hl _, hs _, hs _, hs _, hs _, hs _⟩
  · rw [join0 _ _ N hN']
    exact closeTo_congr _ _ _ fun i _ => by cases f i <;> cases g i <;> rfl
  · rw [join1 _ _ N hN']
    exact closeTo_none _ _ fun i _ => by cases f i <;> cases g i <;> rfl
  · rw [join0 _ _ N hN']
    exact closeTo_congr _ _ _ fun i _ => by cases f i <;> cases g i <;> rfl
  · rw [sum_close _ N hN', sum_close _ N hN', sum_close _ N hN', sum_close _ N hN']
    exact cnt_add f g _ _ N fun k _ => ⟨rfl, rfl⟩
  · rw [sum_close _ N hN', sum_close _ N hN', sum_close _ N hN']
    have h1 := cnt_add (fun i => f i && !g i) (fun i => f i && g i) f (fun _ => false) N fun k _ => ⟨by cases f k <;> cases g k <;> rfl, by cases f k <;> cases g k <;> rfl⟩
    have h2 := cnt_none (fun _ => false) N fun k _ => rfl
    omega

set_option maxRecDepth 100000 in
set_option maxHeartbeats 4000000 in
theorem lawAlgebra_any (x0 y0 : List Int) (A A2 : Option Addr) (n c n2 c2 : Nat) (w : World) (hr : Rd w w.heap.size 1 A n (i64s x0)) (hr2 : Rd w w.heap.size 1 A2 n2 (i64s y0)) (hc : n ≤ c) (hcm : c ≤ maxLen) (hc2 : n2 ≤ c2) (hcm2 : c2 ≤ maxLen)
    (hx : ∀ x ∈ x0, -9223372036854775808 ≤ x ∧ x ≤ 9223372036854775807) (hy : ∀ x ∈ y0, -9223372036854775808 ≤ x ∧ x ≤ 9223372036854775807) :
    Calls Try.prog 4 #[.slice A n c, .slice A2 n2 c2] w fun e w' => e = .returned (.bool true) ∧ Below w.heap.size w w' := by
  obtain ⟨N, hN⟩ : ∃ N, N = 65536 := ⟨_, rfl⟩
  obtain ⟨a, b, u, i, d, ea, eb, eu, ei, ed, e1, e2, e3, s1, s2, v1, v2, v3, la, lb, lu, li, ld, ⟨z1, z2⟩, ⟨z3, z4⟩, ⟨z5, z6⟩, ⟨z7, z8⟩, ⟨z9, z10⟩⟩ := alg (x0.take 40) (y0.take 40) N hN
  have HI1 := Lib.hid (ints_any 40 x0 A n c _ w hr (by omega) hc hcm)
  have HI2 := Lib.hid (fun (W : World) (hb : Below w.heap.size w W) => ints_any 40 y0 A2 n2 c2 _ W (hr2.below hb (Nat.le_refl _)) (by omega) hc2 hcm2)
  have HO1 := Lib.hid (fun (k : Nat) (hk : k ≤ 40) (B : Nat) (W : World) (h : Rd W B 1 A k (i64s (x0.take 40))) => ea ▸ of_any (x0.take 40) A k c B N W h (by omega) hN (fun x hxx => hx x (List.mem_of_mem_take hxx)))
  have HO2 := Lib.hid (fun (k : Nat) (hk : k ≤ 40) (B : Nat) (W : World) (h : Rd W B 1 A2 k (i64s (y0.take 40))) => eb ▸ of_any (y0.take 40) A2 k c2 B N W h (by omega) hN (fun x hxx => hy x (List.mem_of_mem_take hxx)))
  have HU := Lib.hid (fun (A A2 : Option Addr) (c c2 B B2 : Nat) (W : World) (h : Rd W B 2 A a.length (rgCells a)) (h2 : Rd W B2 2 A2 b.length (rgCells b)) => eu ▸ union_any a b A A2 _ c _ c2 B B2 N W h h2 (by omega) (by omega) hN)
  have HI := Lib.hid (fun (A A2 : Option Addr) (c c2 B B2 : Nat) (W : World) (h : Rd W B 2 A a.length (rgCells a)) (h2 : Rd W B2 2 A2 b.length (rgCells b)) => ei ▸ intersect_any a b A A2 _ c _ c2 B B2 N W h h2 (by omega) (by omega) hN)
  have HD := Lib.hid (fun (A A2 : Option Addr) (c c2 B B2 : Nat) (W : World) (h : Rd W B 2 A a.length (rgCells a)) (h2 : Rd W B2 2 A2 b.length (rgCells b)) => ed ▸ subtract_any a b A A2 _ c _ c2 B B2 N W h h2 (by omega) (by omega) hN)
  have HX1 := Lib.hid (fun (A A2 : Option Addr) (c c2 B B2 : Nat) (W : World) (h : Rd W B 2 A d.length (rgCells d)) (h2 : Rd W B2 2 A2 i.length (rgCells i)) => show Calls Try.prog 12 #[.slice A d.length c, .slice A2 i.length c2] W (RetR W a) from by have := union_any d i A A2 _ c _ c2 B B2 N W h h2 (by omega) (by omega) hN; rw [e1] at this; exact this)
  have HX2 := Lib.hid (fun (A A2 : Option Addr) (c c2 B B2 : Nat) (W : World) (h : Rd W B 2 A d.length (rgCells d)) (h2 : Rd W B2 2 A2 i.length (rgCells i)) => show Calls Try.prog 14 #[.slice A d.length c, .slice A2 i.length c2] W (RetR W []) from by have := intersect_any d i A A2 _ c _ c2 B B2 N W h h2 (by omega) (by omega) hN; rw [e2] at this; exact this)
  have HX3 := Lib.hid (fun (A A2 : Option Addr) (c c2 B B2 : Nat) (W : World) (h : Rd W B 2 A b.length (rgCells b)) (h2 : Rd W B2 2 A2 a.length (rgCells a)) => show Calls Try.prog 12 #[.slice A b.length c, .slice A2 a.length c2] W (RetR W u) from by have := union_any b a A A2 _ c _ c2 B B2 N W h h2 (by omega) (by omega) hN; rw [e3] at this; exact this)
  have HV1 := Lib.hid v1
  have HV2 := Lib.hid v2
  have HV3 := Lib.hid v3
  obtain ⟨su, hsu⟩ : ∃ s, sumL (setL u) = s := ⟨_, rfl⟩
  obtain ⟨si, hsi⟩ : ∃ s, sumL (setL i) = s := ⟨_, rfl⟩
  obtain ⟨sd, hsd⟩ : ∃ s, sumL (setL d) = s := ⟨_, rfl⟩
  obtain ⟨sa, hsa⟩ : ∃ s, sumL (setL a) = s := ⟨_, rfl⟩
  obtain ⟨sb, hsb⟩ : ∃ s, sumL (setL b) = s := ⟨_, rfl⟩
  rw [hsu] at z1 z2 s1
  rw [hsi] at z3 z4 s1 s2
  rw [hsd] at z5 z6 s2
  rw [hsa] at z7 z8 s1 s2
  rw [hsb] at z9 z10 s1
  have HSU := Lib.hid hsu
  have HSI := Lib.hid hsi
  have HSD := Lib.hid hsd
  have HSA := Lib.hid hsa
  have HSB := Lib.hid hsb
  have q1 : (su + si == sa + sb) = true := by simpa using s1
  have q2 : (sd + si == sa) = true := by simpa using s2
  clear hr hr2 hc hcm hc2 hcm2 hx hy ea eb eu ei ed e1 e2 e3 s1 s2 v1 v2 v3 hN hsu hsi hsd hsa hsb
  go_enter Try.func4, Try.ntmps4
  go_wp2_with fail
  refine HI1.out.mono ?_
  rintro e w0 ⟨⟨k1, rfl, hk1, _, hR1⟩, rfl⟩
  go_wp2_with fail
  refine (HO1.out k1 hk1 _ _ hR1).mono ?_
  intro e w1 h
  obtain ⟨Aa, ca, rfl, _, hRa, hb1⟩ := h.open_
  have HK := Lib.hid (Keep.cons hRa (Keep.nil (w := w1)))
  have HB := Lib.hid hb1
  clear h hRa hb1 hR1 HI1 HO1
  go_wp2_with fail
  refine (HI2.out _ HB.out).mono ?_
  rintro e w0 ⟨⟨k2, rfl, hk2, _, hR2⟩, rfl⟩
  go_wp2_with fail
  refine (HO2.out k2 hk2 _ _ hR2).mono ?_
  intro e w2 h
  obtain ⟨Ab, cb, rfl, _, hRb, hb2⟩ := h.open_
  have HK2 := Lib.hid (Keep.cons hRb (HK.out.below hb2))
  have HB2 := Lib.hid (ext_trans HB.out hb2)
  clear h hRb hb2 hR2 HI2 HO2 HK HB
  go_wp2_with fail
  refine (HU.out Aa Ab _ _ _ _ _ (HK2.out.get Aa a (by simp)) (HK2.out.get Ab b (by simp))).mono ?_
  intro e w3 h
  obtain ⟨Au, cu, rfl, _, hRu, hb3⟩ := h.open_
  have HK := Lib.hid (Keep.cons hRu (HK2.out.below hb3))
  have HB := Lib.hid (ext_trans HB2.out hb3)
  clear h hRu hb3 HK2 HB2 HU
  go_wp2_with fail
  refine (HI.out Aa Ab _ _ _ _ _ (HK.out.get Aa a (by simp)) (HK.out.get Ab b (by simp))).mono ?_
  intro e w4 h
  obtain ⟨Ai, ci, rfl, _, hRi, hb4⟩ := h.open_
  have HK2 := Lib.hid (Keep.cons hRi (HK.out.below hb4))
  have HB2 := Lib.hid (ext_trans HB.out hb4)
  clear h hRi hb4 HK HB HI
  go_wp2_with fail
  refine (HD.out Aa Ab _ _ _ _ _ (HK2.out.get Aa a (by simp)) (HK2.out.get Ab b (by simp))).mono ?_
  intro e w5 h
  obtain ⟨Ad, cd, rfl, _, hRd, hb5⟩ := h.open_
  have HK := Lib.hid (Keep.cons hRd (HK2.out.below hb5))
  have HB := Lib.hid (ext_trans HB2.out hb5)
  clear h hRd hb5 HK2 HB2 HD
  go_wp2_with fail
  refine (valid_any u Au _ cu _ _ (HK.out.get Au u (by simp)) (by omega) true HV1.out).mono ?_
  rintro e w6 ⟨rfl, hb6⟩
  have HK2 := Lib.hid (HK.out.below hb6)
  have HB2 := Lib.hid (ext_trans HB.out hb6)
  clear hb6 HK HB
  go_wp2_with fail
  refine (valid_any i Ai _ ci _ _ (HK2.out.get Ai i (by simp)) (by omega) true HV2.out).mono ?_
  rintro e w7 ⟨rfl, hb7⟩
  have HK := Lib.hid (HK2.out.below hb7)
  have HB := Lib.hid (ext_trans HB2.out hb7)
  clear hb7 HK2 HB2
  go_wp2_with fail
  refine (valid_any d Ad _ cd _ _ (HK.out.get Ad d (by simp)) (by omega) true HV3.out).mono ?_
  rintro e w8 ⟨rfl, hb8⟩
  have HK2 := Lib.hid (HK.out.below hb8)
  have HB2 := Lib.hid (ext_trans HB.out hb8)
  clear hb8 HK HB
  go_wp2_with fail
  refine (awake_any _).mono ?_
  rintro e w9 ⟨rfl, hb9⟩
  have HK := Lib.hid (HK2.out.below hb9)
  have HB := Lib.hid (ext_trans HB2.out hb9)
  clear hb9 HK2 HB2
  go_wp2_with fail
  refine (count_any u Au _ cu _ _ (HK.out.get Au u (by simp)) (by omega) su HSU.out).mono ?_
  rintro e w10 ⟨rfl, hb10⟩
  have HK2 := Lib.hid (HK.out.below hb10)
  have HB2 := Lib.hid (ext_trans HB.out hb10)
  clear hb10 HK HB
  go_wp2_with fail
  refine (count_any i Ai _ ci _ _ (HK2.out.get Ai i (by simp)) (by omega) si HSI.out).mono ?_
  rintro e w11 ⟨rfl, hb11⟩
  have HK := Lib.hid (HK2.out.below hb11)
  have HB := Lib.hid (ext_trans HB2.out hb11)
  clear hb11 HK2 HB2
  go_wp2_with fail
  refine (count_any a Aa _ ca _ _ (HK.out.get Aa a (by simp)) (by omega) sa HSA.out).mono ?_
  rintro e w12 ⟨rfl, hb12⟩
  have HK2 := Lib.hid (HK.out.below hb12)
  have HB2 := Lib.hid (ext_trans HB.out hb12)
  clear hb12 HK HB
  go_wp2_with fail
  refine (count_any b Ab _ cb _ _ (HK2.out.get Ab b (by simp)) (by omega) sb HSB.out).mono ?_
  rintro e w13 ⟨rfl, hb13⟩
  have HK := Lib.hid (HK2.out.below hb13)
  have HB := Lib.hid (ext_trans HB2.out hb13)
  clear hb13 HK2 HB2
  go_wp2_with fail
  refine (count_any d Ad _ cd _ _ (HK.out.get Ad d (by simp)) (by omega) sd HSD.out).mono ?_
  rintro e w14 ⟨rfl, hb14⟩
  have HK2 := Lib.hid (HK.out.below hb14)
  have HB2 := Lib.hid (ext_trans HB.out hb14)
  clear hb14 HK HB
  go_wp2_with fail
  refine (count_any i Ai _ ci _ _ (HK2.out.get Ai i (by simp)) (by omega) si HSI.out).mono ?_
  rintro e w15 ⟨rfl, hb15⟩
  have HK := Lib.hid (HK2.out.below hb15)
  have HB := Lib.hid (ext_trans HB2.out hb15)
  clear hb15 HK2 HB2
  go_wp2_with fail
  refine (count_any a Aa _ ca _ _ (HK.out.get Aa a (by simp)) (by omega) sa HSA.out).mono ?_
  rintro e w16 ⟨rfl, hb16⟩
  have HK2 := Lib.hid (HK.out.below hb16)
  have HB2 := Lib.hid (ext_trans HB.out hb16)
  clear hb16 HK HB
  go_wp2_with fail
  refine (HX1.out Ad Ai _ _ _ _ _ (HK2.out.get Ad d (by simp)) (HK2.out.get Ai i (by simp))).mono ?_
  intro e w17 h
  obtain ⟨A7, c7, rfl, _, hR7, hb17⟩ := h.open_
  have HK := Lib.hid (Keep.cons hR7 (HK2.out.below hb17))
  have HB := Lib.hid (ext_trans HB2.out hb17)
  clear h hR7 hb17 HK2 HB2 HX1
  go_wp2_with fail
  refine (same_any a A7 Aa _ c7 ca _ _ _ (HK.out.get A7 a (by simp)) (HK.out.get Aa a (by simp)) (by omega)).mono ?_
  rintro e w18 ⟨rfl, hb18⟩
  have HK2 := Lib.hid (HK.out.below hb18)
  have HB2 := Lib.hid (ext_trans HB.out hb18)
  clear hb18 HK HB
  go_wp2_with fail
  refine (HX2.out Ad Ai _ _ _ _ _ (HK2.out.get Ad d (by simp)) (HK2.out.get Ai i (by simp))).mono ?_
  intro e w19 h
  obtain ⟨A8, c8, rfl, _, hR8, hb19⟩ := h.open_
  have HK := Lib.hid (HK2.out.below hb19)
  have HB := Lib.hid (ext_trans HB2.out hb19)
  clear h hR8 hb19 HK2 HB2 HX2
  go_wp2_with fail
  refine (HX3.out Ab Aa _ _ _ _ _ (HK.out.get Ab b (by simp)) (HK.out.get Aa a (by simp))).mono ?_
  intro e w20 h
  obtain ⟨A9, c9, rfl, _, hR9, hb20⟩ := h.open_
  have HK2 := Lib.hid (Keep.cons hR9 (HK.out.below hb20))
  have HB2 := Lib.hid (ext_trans HB.out hb20)
  clear h hR9 hb20 HK HB HX3
  go_wp2_with fail
  refine (same_any u A9 Au _ c9 cu _ _ _ (HK2.out.get A9 u (by simp)) (HK2.out.get Au u (by simp)) (by omega)).mono ?_
  rintro e w21 ⟨rfl, hb21⟩
  have hbf := ext_trans HB2.out hb21
  clear hb21 HK2 HB2
  go_wp2
  go_ret
  exact ⟨by trivial, hbf⟩
end Go.Proofs.Ytebeaghombjooaa

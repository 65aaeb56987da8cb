/- Layer 25: the reference's map: Feed. -/
import Derived.Test.YtdkkfahnkenplaaNpB
import Derived.Test.YtdkkfahnkenplaaRefu
import Derived.RegionTactic
import Derived.ChangeAlike
import Derived.BigRegion
set_option linter.unusedVariables false
set_option linter.unusedSimpArgs false
namespace Go.Proofs.Ytdkkfahnkenplaa
open Go.RowKit

theorem RfTo.refl {w : World} {h : Nat} {row : Option Nat} {S : Mst} (k : RfAt w h row S) : RfTo w h row S w := ⟨row, k, Chg.refl _ _ _, .inl rfl⟩
theorem RfTo.below {w x y : World} {h : Nat} {row : Option Nat} {S : Mst} (k : RfTo w h row S x) (hb : Below x.heap.size x y) : RfTo w h row S y := by
  obtain ⟨r, h1, h2, h3⟩ := k
  exact ⟨r, h1.below hb, h2.below hb, h3⟩
theorem RfTo.drewN {w x : World} {h : Nat} {row : Option Nat} {S : Mst} (k : RfTo w h row S x) (n : Nat) : RfTo w h row S (x.drewN n) := k.below (below_drewN (Below.refl _ _) n)
theorem RfTo.box_lt {w x : World} {h : Nat} {row : Option Nat} {S : Mst} (k : RfTo w h row S x) : h < x.heap.size := by
  obtain ⟨r, h1, h2, h3⟩ := k
  exact h1.box_lt
theorem RfTo.cell {w x : World} {h : Nat} {row : Option Nat} {S : Mst} (k : RfTo w h row S x) : x.cell? ⟨h, 5, none⟩ = some (.int .i64 S.mode) ∧ x.cell? ⟨h, 6, none⟩ = some (.int .i64 S.lo) ∧ x.cell? ⟨h, 7, none⟩ = some (.int .i64 S.hi) ∧ x.cell? ⟨h, 8, none⟩ = some (.int .i64 S.q) ∧ (∀ i, x.frozen? ⟨h, i, none⟩ = false) ∧ h < x.heap.size := by
  obtain ⟨r, ⟨v, h0, h1, ⟨q, z, l⟩⟩, h2, h3⟩ := k
  exact ⟨q 5, q 6, q 7, q 8, z, l⟩
theorem RfTo.set {w x : World} {h j : Nat} {row : Option Nat} {S S' : Mst} {u : Value} (k : RfTo w h row S x) (hj : j < 9) (hc : ∀ v : Value, (#[.int .i64 S.tb, .int .i64 S.fs, .int .i64 S.N, .int .i64 S.M, v, .int .i64 S.mode, .int .i64 S.lo, .int .i64 S.hi, .int .i64 S.q] : Array Value).setIfInBounds j u = #[.int .i64 S'.tb, .int .i64 S'.fs, .int .i64 S'.N, .int .i64 S'.M, v, .int .i64 S'.mode, .int .i64 S'.lo, .int .i64 S'.hi, .int .i64 S'.q]) (hs : S'.ks = S.ks) : RfTo w h row S' (x.setCell ⟨h, j, none⟩ u) := by
  obtain ⟨r, ⟨v, h0, h1, hB⟩, h2, h3⟩ := k
  refine ⟨r, ⟨v, h0, ?_, hB.set (by simpa using hj) (hc v)⟩, h2.set, h3⟩
  rw [hs]
  exact ownsRow_setCell_below h1 (show (⟨h, j, none⟩ : Addr).block < h + 1 from Nat.lt_succ_self _) u
theorem radd_to {w x : World} {h : Nat} {row : Option Nat} (S : Mst) (hT : RfTo w h row S x) (k : Int) (n : Nat) (hn : S.ks.length + n ≤ 100000) :
    Calls Try.prog 34 #[mptr h, .int .i64 k, .int .i64 n] x fun e y => e = .returned (.tuple #[]) ∧ RfTo w h row { S with ks := S.ks ++ List.replicate n k } y := by
  obtain ⟨r, h1, h2, h3⟩ := hT
  refine (radd_any S h r x h1 k n hn).mono fun e y => ?_
  rintro ⟨rfl, r', k1, k2, k3⟩
  exact ⟨rfl, r', k1, h2.trans h3 k2, h3.trans k3 h2.2.2.2.1⟩
set_option maxRecDepth 100000 in
set_option maxHeartbeats 8000000 in
theorem rfeed_any (S : Mst) (h : Nat) (row : Option Nat) (o : Ocv) (w : World) (hS : RfAt w h row S) (hI : MInv S) (hl : S.ks.length < S.N) (hq : S.q < 1000000) (hf : 0 ≤ S.fs ∧ S.fs ≤ 65536) :
    Calls Try.prog 19 #[mptr h, ocV o] w fun e w' => e = .returned (.int .i64 0) ∧ RfTo w h row (feedS S (oYes o) (oNo o)) w' := by
  obtain ⟨n1, n2, n3, n4⟩ := size_bd hI hl
  obtain ⟨hk, hM, hm2, hm3⟩ := hI
  have hk0 := hk
  obtain ⟨k1, k2, k3, k4, k5, k6⟩ := hk
  obtain ⟨n, hn⟩ : ∃ n, sizeN S = n := ⟨_, rfl⟩
  obtain ⟨l, hll⟩ : ∃ l, S.ks.length = l := ⟨_, rfl⟩
  obtain ⟨yes, hy⟩ : ∃ y, oYes o = y := ⟨_, rfl⟩
  obtain ⟨no, hno⟩ : ∃ y, oNo o = y := ⟨_, rfl⟩
  have hyn := yes_no o
  have hfd : feedS S (oYes o) (oNo o) = feedS S yes no := by rw [hy, hno]
  rw [hfd]
  rw [hy, hno] at hyn
  rw [hn] at n1 n2 n3 n4
  have HNX := Lib.hid (fun (W : World) (k : RfAt W h row S) => show Calls Try.prog 12 #[mptr h] W fun e w' => e = .returned (.tuple #[.agg #[.int .i64 S.tb, .int .i64 (S.fs + l), .int .i64 n, .int .i64 0, .int .i64 0], .bool true]) ∧ Below W.heap.size W w' from rnext_any S h row W k hk0 hl hf l hll n hn)
  obtain ⟨v, f, ex, dA, dn, dc, cd, lv, mo, nx, oA, on, oc⟩ := o
  simp only [oYes, oNo] at hy hno
  have hv1 : (v == 1) = yes := by rw [← hy]; rfl
  have hno2 : (v == 2 && ex == 2) = no := by rw [← hno]; rw [Bool.eq_iff_iff]; simp
  have HRF := Lib.hid (fun W => refused_any v f ex cd lv nx 2 mo dA oA dn dc on oc no hno2 W)
  have HN := Lib.hid hn
  have HS0 := Lib.hid ((RfTo.refl hS).below ((Below.refl w.heap.size w).alloc (Nat.le_refl _) (.cells #[.int .i64 v, .int .i64 f, .int .i64 ex, .slice dA dn dc, .int .i64 cd, .int .i64 lv, .bool mo, .int .i64 nx, .slice oA on oc] 49)))
  have HA0 := Lib.hid (hS.below ((Below.refl w.heap.size w).alloc (Nat.le_refl _) (.cells #[.int .i64 v, .int .i64 f, .int .i64 ex, .slice dA dn dc, .int .i64 cd, .int .i64 lv, .bool mo, .int .i64 nx, .slice oA on oc] 49)))
  have HB0 := Lib.hid (Box.alloc_ (w := w) (cs := #[.int .i64 v, .int .i64 f, .int .i64 ex, .slice dA dn dc, .int .i64 cd, .int .i64 lv, .bool mo, .int .i64 nx, .slice oA on oc]) (e := 49))
  have HGL := Lib.hid hS.box_lt
  clear hS hfd hn hy hno hk0 hll hno2 hf
  go_enter Try.func19, Try.ntmps19
  go_wp2_with fail
  obtain ⟨W0, hW0⟩ : ∃ W0, w.alloc (.cells #[.int .i64 v, .int .i64 f, .int .i64 ex, .slice dA dn dc, .int .i64 cd, .int .i64 lv, .bool mo, .int .i64 nx, .slice oA on oc] 49) = W0 := ⟨_, rfl⟩
  rw [hW0] at HS0 HA0 HB0 ⊢
  clear hW0
  refine (HNX.out _ HA0.out).mono ?_
  rintro e w1 ⟨rfl, hb1⟩
  have HS1 := Lib.hid ((HS0.out.below hb1).below ((Below.refl w1.heap.size w1).alloc (Nat.le_refl _) (.cells #[.int .i64 S.tb, .int .i64 (S.fs + l), .int .i64 n, .int .i64 0, .int .i64 0] 31)))
  have HB1 := Lib.hid ((HB0.out.below hb1).alloc' (.cells #[.int .i64 S.tb, .int .i64 (S.fs + l), .int .i64 n, .int .i64 0, .int .i64 0] 31))
  have HQ1 := Lib.hid (Box.alloc_ (w := w1) (cs := #[.int .i64 S.tb, .int .i64 (S.fs + l), .int .i64 n, .int .i64 0, .int .i64 0]) (e := 31))
  have HQL := Lib.hid (Nat.lt_of_lt_of_le HS0.out.box_lt hb1.size)
  clear hb1 HS0 HA0 HB0 HNX
  go_upto_region 4 with fail
  obtain ⟨W1, hW1⟩ : ∃ W1, w1.alloc (.cells #[.int .i64 S.tb, .int .i64 (S.fs + l), .int .i64 n, .int .i64 0, .int .i64 0] 31) = W1 := ⟨_, rfl⟩
  rw [hW1] at HS1 HB1 HQ1 ⊢
  clear hW1
  obtain ⟨y5, y6, y7, y8, z, lz⟩ := HS1.out.cell
  have HS2 := Lib.hid (HS1.out.set (j := 8) (u := .int .i64 ((S.q + 1 : Nat) : Int)) (S' := { S with q := S.q + 1 }) (by omega) (fun v => rfl) rfl)
  have HB2 := Lib.hid (HB1.out.grown (one_set (one_refl W1 h) 8 (.int .i64 ((S.q + 1 : Nat) : Int))) (by have := HGL.out; omega))
  have HQ2 := Lib.hid (HQ1.out.grown (one_set (one_refl W1 h) 8 (.int .i64 ((S.q + 1 : Nat) : Int))) (by have := HQL.out; omega))
  obtain ⟨W2, hW2⟩ : ∃ W2, W1.setCell ⟨h, 8, none⟩ (.int .i64 ((S.q + 1 : Nat) : Int)) = W2 := ⟨_, rfl⟩
  rw [hW2] at HS2 HB2 HQ2
  rw [show ((S.q + 1 : Nat) : Int) = (S.q : Int) + 1 by omega] at hW2
  go_upto_region 5 with fail
  try rw [hW2]
  clear hW2 y5 y6 y7 y8 z lz HS1 HB1 HQ1
  obtain ⟨y5, y6, y7, y8, z, lz⟩ := HS2.out.cell
  dsimp only at y5 y6 y7 y8
  obtain ⟨qb, zb, lb⟩ := HB2.out
  obtain ⟨qq, zq, lq⟩ := HQ2.out
  have hS : (∀ i, W2.drew.cell? ⟨w.heap.size, i, none⟩ = (#[.int .i64 v, .int .i64 f, .int .i64 ex, .slice dA dn dc, .int .i64 cd, .int .i64 lv, .bool mo, .int .i64 nx, .slice oA on oc] : Array Value)[i]?) ∧ True ∧ True := ⟨HB2.out.1, trivial, trivial⟩
  refine rgs_start (fun w' => (∀ i, w'.cell? ⟨w.heap.size, i, none⟩ = (#[.int .i64 v, .int .i64 f, .int .i64 ex, .slice dA dn dc, .int .i64 cd, .int .i64 lv, .bool mo, .int .i64 nx, .slice oA on oc] : Array Value)[i]?) ∧ True ∧ True) (by kernel_rfl) ?_
  refine rgs_t (v := ?_) (some 23) 0 (by kernel_rfl) rfl rfl (by assumption) (.inl ⟨by rfl, fun w' hw => ?_⟩) ?_
  rotate_left
  · obtain ⟨q1, q2, q3⟩ := hw; go_simp <;> with_reducible rfl
  try simp only [Act.put, List.setIfInBounds_toArray, List.set_cons_zero, List.set_cons_succ]
  refine rgs_t (v := ?_) (some 24) 1 (by kernel_rfl) rfl rfl (by assumption) (.inl ⟨by rfl, fun w' hw => ?_⟩) ?_
  rotate_left
  · obtain ⟨q1, q2, q3⟩ := hw; go_simp <;> with_reducible rfl
  try simp only [Act.put, List.setIfInBounds_toArray, List.set_cons_zero, List.set_cons_succ]
  refine rgs_t (v := ?_) (some 25) 2 (by kernel_rfl) rfl rfl (by assumption) (.inl ⟨by rfl, fun w' hw => ?_⟩) ?_
  rotate_left
  · obtain ⟨q1, q2, q3⟩ := hw; go_simp <;> with_reducible rfl
  try simp only [Act.put, List.setIfInBounds_toArray, List.set_cons_zero, List.set_cons_succ]
  refine rgs_t (v := ?_) (some 26) 3 (by kernel_rfl) rfl rfl (by assumption) (.inl ⟨by rfl, fun w' hw => ?_⟩) ?_
  rotate_left
  · obtain ⟨q1, q2, q3⟩ := hw; go_simp <;> with_reducible rfl
  try simp only [Act.put, List.setIfInBounds_toArray, List.set_cons_zero, List.set_cons_succ]
  refine rgs_c 4 (by kernel_rfl) rfl (by rfl) (fun K hK => ?_)
  go_simp
  refine (HRF.out _).mono ?_
  rintro e w3 ⟨rfl, hb3⟩
  have hbc : Below W2.heap.size W2 w3 := (below_drew (Below.refl _ _)).trans hb3
  have hS1 : (∀ i, w3.cell? ⟨w.heap.size, i, none⟩ = (#[.int .i64 v, .int .i64 f, .int .i64 ex, .slice dA dn dc, .int .i64 cd, .int .i64 lv, .bool mo, .int .i64 nx, .slice oA on oc] : Array Value)[i]?) ∧ True ∧ True := ⟨(HB2.out.below hbc).1, trivial, trivial⟩
  refine hK _ _ hS1 ?_
  clear hK K
  try simp only [Act.put, List.setIfInBounds_toArray, List.set_cons_zero, List.set_cons_succ]
  refine rgs_t (v := ?_) (some 7) 5 (by kernel_rfl) rfl rfl (by assumption) (.inl ⟨by rfl, fun w' hw => ?_⟩) ?_
  rotate_left
  · obtain ⟨q1, q2, q3⟩ := hw; go_simp <;> with_reducible rfl
  try simp only [Act.put, List.setIfInBounds_toArray, List.set_cons_zero, List.set_cons_succ]
  refine rgs_t (v := ?_) (some 8) 6 (by kernel_rfl) rfl rfl (by assumption) (.inl ⟨by rfl, fun w' hw => ?_⟩) ?_
  rotate_left
  · obtain ⟨q1, q2, q3⟩ := hw; go_simp <;> with_reducible rfl
  try simp only [Act.put, List.setIfInBounds_toArray, List.set_cons_zero, List.set_cons_succ]
  refine rgs_d (by kernel_rfl) ?_
  have HS3 := Lib.hid (HS2.out.below hbc)
  have HQ3 := Lib.hid (HQ2.out.below hbc)
  clear hbc hb3 hS hS1 y5 y6 y7 y8 z lz qb zb lb qq zq lq HB2 HQ2 HS2 HRF
  obtain ⟨y5, y6, y7, y8, z, lz⟩ := HS3.out.cell
  dsimp only at y5 y6 y7 y8
  obtain ⟨qq, zq, lq⟩ := HQ3.out
  by_cases m2 : S.mode = 2
  · have d1 : ((S.mode : Int) == 2) = true := by simp; omega
    have hfin : feedS S yes no = halveS { S with q := S.q + 1 } n yes no := by rw [feedS, if_pos m2, HN.out]
    have HFIN := Lib.hid hfin
    obtain ⟨hlt1, hlt2⟩ := n4 m2
    clear hfin n4 hm2
    have hl3 : S.ks.length + S.lo ≤ 100000 := by omega
    have hl4 : S.ks.length + n ≤ 100000 := by omega
    cases yes
    · cases no
      · have HAD := Lib.hid (fun (W : World) (k : RfTo w h row { S with q := S.q + 1 } W) => radd_to { S with q := S.q + 1 } k 1 S.lo hl3)
        go_upto_region 11 with fail
        go_quiet (fail)
        go_wp2_with fail
        refine (HAD.out _ (HS3.out.drewN _)).mono ?_
        rintro e w4 ⟨rfl, hT4⟩
        have HT4 := Lib.hid hT4
        clear hT4 y5 y6 y7 y8 z lz
        obtain ⟨y5, y6, y7, y8, z, lz⟩ := HT4.out.cell
        dsimp only at y5 y6 y7 y8
        have hfn := HT4.out.set (j := 5) (u := .int .i64 0) (S' := halveS { S with q := S.q + 1 } n false false) (by omega) (fun v => rfl) rfl
        go_wp2_with fail
        go_ret
        exact ⟨rfl, by rw [HFIN.out]; exact hfn⟩
      · have HS4 := Lib.hid (HS3.out.set (j := 7) (u := .int .i64 n) (S' := { S with q := S.q + 1, hi := n }) (by omega) (fun v => rfl) rfl)
        obtain ⟨W4, hW4⟩ : ∃ W, w3.setCell ⟨h, 7, none⟩ (.int .i64 n) = W := ⟨_, rfl⟩
        rw [hW4] at HS4
        have HAD := Lib.hid (fun (W : World) (k : RfTo w h row { S with q := S.q + 1, hi := n } W) => radd_to { S with q := S.q + 1, hi := n } k 1 S.lo hl3)
        have HAD2 := Lib.hid (fun (W : World) (k : RfTo w h row { S with q := S.q + 1, hi := n, ks := S.ks ++ List.replicate S.lo 1 } W) => radd_to { S with q := S.q + 1, hi := n, ks := S.ks ++ List.replicate S.lo 1 } k 2 1 (by simp; omega))
        go_upto_region 11 with fail
        try rw [hW4]
        clear hW4 y5 y6 y7 y8 z lz qq zq lq
        obtain ⟨y5, y6, y7, y8, z, lz⟩ := HS4.out.cell
        dsimp only at y5 y6 y7 y8
        by_cases ht : n = S.lo + 1
        · have hd : ((n : Int) == (S.lo : Int) + 1) = true := by simp; omega
          have hfin2 : halveS { S with q := S.q + 1 } n false true = { S with q := S.q + 1, hi := n, ks := S.ks ++ List.replicate S.lo 1 ++ List.replicate 1 2, mode := 0 } := by simp [halveS, ht, learnS]
          have HFIN2 := Lib.hid hfin2
          clear hfin2
          go_quiet (fail)
          go_wp2_with fail
          refine (HAD.out _ (HS4.out.drewN _)).mono ?_
          rintro e w4 ⟨rfl, hT4⟩
          have HT4 := Lib.hid hT4
          clear hT4 y5 y6 y7 y8 z lz
          go_wp2_with fail
          refine (HAD2.out _ HT4.out).mono ?_
          rintro e w5 ⟨rfl, hT5⟩
          have HT5 := Lib.hid hT5
          clear hT5
          obtain ⟨y5, y6, y7, y8, z, lz⟩ := HT5.out.cell
          dsimp only at y5 y6 y7 y8
          have hfn := HT5.out.set (j := 5) (u := .int .i64 0) (S' := { S with q := S.q + 1, hi := n, ks := S.ks ++ List.replicate S.lo 1 ++ List.replicate 1 2, mode := 0 }) (by omega) (fun v => rfl) rfl
          go_wp2_with fail
          go_ret
          exact ⟨rfl, by rw [HFIN.out, HFIN2.out]; exact hfn⟩
        · have hd : ((n : Int) == (S.lo : Int) + 1) = false := by simp; omega
          have hfin2 : halveS { S with q := S.q + 1 } n false true = { S with q := S.q + 1, hi := n } := by simp [halveS, ht]
          have HFIN2 := Lib.hid hfin2
          clear hfin2
          go_quiet (fail)
          go_wp2_with fail
          go_ret
          exact ⟨rfl, by rw [HFIN.out, HFIN2.out]; exact HS4.out.drewN _⟩
    · obtain rfl : no = false := by simpa using hyn
      have HS4 := Lib.hid (HS3.out.set (j := 6) (u := .int .i64 n) (S' := { S with q := S.q + 1, lo := n }) (by omega) (fun v => rfl) rfl)
      obtain ⟨W4, hW4⟩ : ∃ W, w3.setCell ⟨h, 6, none⟩ (.int .i64 n) = W := ⟨_, rfl⟩
      rw [hW4] at HS4
      have HAD := Lib.hid (fun (W : World) (k : RfTo w h row { S with q := S.q + 1, lo := n } W) => radd_to { S with q := S.q + 1, lo := n } k 1 n hl4)
      have HAD2 := Lib.hid (fun (W : World) (k : RfTo w h row { S with q := S.q + 1, lo := n, ks := S.ks ++ List.replicate n 1 } W) => radd_to { S with q := S.q + 1, lo := n, ks := S.ks ++ List.replicate n 1 } k 2 1 (by simp; omega))
      go_upto_region 11 with fail
      try rw [hW4]
      clear hW4 y5 y6 y7 y8 z lz qq zq lq
      obtain ⟨y5, y6, y7, y8, z, lz⟩ := HS4.out.cell
      dsimp only at y5 y6 y7 y8
      by_cases ht : S.hi = n + 1
      · have hd : ((S.hi : Int) == (n : Int) + 1) = true := by simp; omega
        have hfin2 : halveS { S with q := S.q + 1 } n true false = { S with q := S.q + 1, lo := n, ks := S.ks ++ List.replicate n 1 ++ List.replicate 1 2, mode := 0 } := by simp [halveS, ht, learnS]
        have HFIN2 := Lib.hid hfin2
        clear hfin2
        go_quiet (fail)
        go_wp2_with fail
        refine (HAD.out _ (HS4.out.drewN _)).mono ?_
        rintro e w4 ⟨rfl, hT4⟩
        have HT4 := Lib.hid hT4
        clear hT4 y5 y6 y7 y8 z lz
        go_wp2_with fail
        refine (HAD2.out _ HT4.out).mono ?_
        rintro e w5 ⟨rfl, hT5⟩
        have HT5 := Lib.hid hT5
        clear hT5
        obtain ⟨y5, y6, y7, y8, z, lz⟩ := HT5.out.cell
        dsimp only at y5 y6 y7 y8
        have hfn := HT5.out.set (j := 5) (u := .int .i64 0) (S' := { S with q := S.q + 1, lo := n, ks := S.ks ++ List.replicate n 1 ++ List.replicate 1 2, mode := 0 }) (by omega) (fun v => rfl) rfl
        go_wp2_with fail
        go_ret
        exact ⟨rfl, by rw [HFIN.out, HFIN2.out]; exact hfn⟩
      · have hd : ((S.hi : Int) == (n : Int) + 1) = false := by simp; omega
        have hfin2 : halveS { S with q := S.q + 1 } n true false = { S with q := S.q + 1, lo := n } := by simp [halveS, ht]
        have HFIN2 := Lib.hid hfin2
        clear hfin2
        go_quiet (fail)
        go_wp2_with fail
        go_ret
        exact ⟨rfl, by rw [HFIN.out, HFIN2.out]; exact HS4.out.drewN _⟩
  · have d1 : ((S.mode : Int) == 2) = false := by simp; omega
    have hl4 : S.ks.length + n ≤ 100000 := by omega
    have hl5 : S.ks.length + 1 ≤ 100000 := by omega
    clear n4 hm2
    cases yes
    · cases no
      · by_cases hn1 : 1 < n
        · have d2 : ((n : Int) == 1) = false := by simp; omega
          have hfin : feedS S false false = { S with q := S.q + 1, mode := 0 } := by rw [feedS, if_neg m2, HN.out]; simp [hn1]
          have HFIN := Lib.hid hfin
          have hfn := HS3.out.set (j := 5) (u := .int .i64 0) (S' := { S with q := S.q + 1, mode := 0 }) (by omega) (fun v => rfl) rfl
          clear hfin
          go_wp2_with fail
          go_ret
          exact ⟨rfl, by rw [HFIN.out]; exact hfn⟩
        · obtain rfl : n = 1 := by omega
          have hfin : feedS S false false = { S with q := S.q + 1, ks := S.ks ++ List.replicate 1 3, mode := 0 } := by rw [feedS, if_neg m2, HN.out]; simp [learnS]
          have HFIN := Lib.hid hfin
          have HAD := Lib.hid (fun (W : World) (k : RfTo w h row { S with q := S.q + 1 } W) => radd_to { S with q := S.q + 1 } k 3 1 hl5)
          clear hfin
          go_wp2_with fail
          refine (HAD.out _ HS3.out).mono ?_
          rintro e w4 ⟨rfl, hT4⟩
          have HT4 := Lib.hid hT4
          clear hT4 y5 y6 y7 y8 z lz
          obtain ⟨y5, y6, y7, y8, z, lz⟩ := HT4.out.cell
          dsimp only at y5 y6 y7 y8
          have hfn := HT4.out.set (j := 5) (u := .int .i64 0) (S' := { S with q := S.q + 1, ks := S.ks ++ List.replicate 1 3, mode := 0 }) (by omega) (fun v => rfl) rfl
          go_wp2_with fail
          go_ret
          exact ⟨rfl, by rw [HFIN.out]; exact hfn⟩
      · by_cases hn1 : 1 < n
        · have d2 : decide ((1 : Int) < (n : Int)) = true := by simp; omega
          have hfin : feedS S false true = { S with q := S.q + 1, mode := 2, lo := 0, hi := n } := by rw [feedS, if_neg m2, HN.out]; simp [hn1]
          have HFIN := Lib.hid hfin
          have hSa := HS3.out.set (j := 5) (u := .int .i64 2) (S' := { S with q := S.q + 1, mode := 2 }) (by omega) (fun v => rfl) rfl
          have hSb := hSa.set (j := 6) (u := .int .i64 0) (S' := { S with q := S.q + 1, mode := 2, lo := 0 }) (by omega) (fun v => rfl) rfl
          have hSc := hSb.set (j := 7) (u := .int .i64 n) (S' := { S with q := S.q + 1, mode := 2, lo := 0, hi := n }) (by omega) (fun v => rfl) rfl
          have HSC := Lib.hid hSc
          clear hfin hSa hSb hSc
          go_upto_region 24 with fail
          go_region
          go_wp2_with fail
          go_ret
          exact ⟨rfl, by rw [HFIN.out]; exact HSC.out⟩
        · obtain rfl : n = 1 := by omega
          have hfin : feedS S false true = { S with q := S.q + 1, ks := S.ks ++ List.replicate 1 2, mode := 0 } := by rw [feedS, if_neg m2, HN.out]; simp [learnS]
          have HFIN := Lib.hid hfin
          have HAD := Lib.hid (fun (W : World) (k : RfTo w h row { S with q := S.q + 1 } W) => radd_to { S with q := S.q + 1 } k 2 1 hl5)
          clear hfin
          go_wp2_with fail
          refine (HAD.out _ HS3.out).mono ?_
          rintro e w4 ⟨rfl, hT4⟩
          have HT4 := Lib.hid hT4
          clear hT4 y5 y6 y7 y8 z lz
          obtain ⟨y5, y6, y7, y8, z, lz⟩ := HT4.out.cell
          dsimp only at y5 y6 y7 y8
          have hfn := HT4.out.set (j := 5) (u := .int .i64 0) (S' := { S with q := S.q + 1, ks := S.ks ++ List.replicate 1 2, mode := 0 }) (by omega) (fun v => rfl) rfl
          go_wp2_with fail
          go_ret
          exact ⟨rfl, by rw [HFIN.out]; exact hfn⟩
    · have hfin : feedS S true no = { S with q := S.q + 1, ks := S.ks ++ List.replicate n 1, mode := 1 } := by rw [feedS, if_neg m2, HN.out]; simp [learnS]
      have HFIN := Lib.hid hfin
      have HAD := Lib.hid (fun (W : World) (k : RfTo w h row { S with q := S.q + 1 } W) => radd_to { S with q := S.q + 1 } k 1 n hl4)
      clear hfin
      go_wp2_with fail
      refine (HAD.out _ HS3.out).mono ?_
      rintro e w4 ⟨rfl, hT4⟩
      have HT4 := Lib.hid hT4
      clear hT4 y5 y6 y7 y8 z lz
      obtain ⟨y5, y6, y7, y8, z, lz⟩ := HT4.out.cell
      dsimp only at y5 y6 y7 y8
      have hfn := HT4.out.set (j := 5) (u := .int .i64 1) (S' := { S with q := S.q + 1, ks := S.ks ++ List.replicate n 1, mode := 1 }) (by omega) (fun v => rfl) rfl
      go_wp2_with fail
      go_ret
      exact ⟨rfl, by rw [HFIN.out]; exact hfn⟩
end Go.Proofs.Ytdkkfahnkenplaa

/- Layer 25: the law MapTruth. -/
import Derived.Test.YtdkkfahnkenplaaMapV
import Derived.Test.YtdkkfahnkenplaaMapZ
import Derived.Deep.DeepCutAuto
set_option linter.unusedVariables false
set_option linter.unusedSimpArgs false
namespace Go.Proofs.Ytdkkfahnkenplaa
open Go.RowKit

/-- What is known at the head of the loop of MapTruth. -/
def TrInv (xs : List Bool) (N M c L k : Nat) (S : Mst) : Prop := MInv S ∧ S.N = N ∧ S.M = M ∧ S.q = k ∧ phi c S + k ≤ N * c ∧ SInv xs S ∧ doubts S.ks = 0 ∧ QInv L xs S
theorem tr_next {xs : List Bool} {N M c L k : Nat} {S : Mst} (h : TrInv xs N M c L k S) (hl : S.ks.length < N) (hN : N ≤ 512) (hc : lg N + 3 = c) (hc2 : c ≤ 100) (hL : lg M = L) :
    TrInv xs N M c L (k + 1) (feedS S (allT xs S.ks.length (sizeN S)) (!allT xs S.ks.length (sizeN S))) ∧ k < N * c ∧ sizeN S ≤ M := by
  obtain ⟨h1, rfl, rfl, h4, h5, h6, h7, h8⟩ := h
  have hm : S.N * c ≤ 512 * 100 := Nat.mul_le_mul hN hc2
  obtain ⟨y, hy⟩ : ∃ y, allT xs S.ks.length (sizeN S) = y := ⟨_, rfl⟩
  have hyn : ¬ (y = true ∧ (!y) = true) := by cases y <;> simp
  have hmm : S.mode = 0 ∨ S.mode = 1 ∨ S.mode = 2 := by have := h1.2.2.2; omega
  have hq := q_step L xs S h1 hl h6 hL h8 hmm
  rw [hy] at hq ⊢
  obtain ⟨f1, f2, f3, f4, f5⟩ := feed_phi c S y (!y) h1 hl (by omega) hyn (by omega)
  obtain ⟨g1, g2⟩ := sound_step xs S y (!y) h1 hl h6 (fun h => by rw [hy, h]) (fun h => by rw [hy]; simpa using h)
  have hno : ¬ (sizeN S = 1 ∧ y = false ∧ (!y) = false) := by cases y <;> simp
  rw [if_neg hno] at g2
  refine ⟨⟨f1, f2, f3, by rw [f4, h4], by omega, g1, by omega, hq⟩, by omega, ?_⟩
  obtain ⟨n1, n2, n3, n4⟩ := size_bd h1 hl
  obtain ⟨_, _, _, _, _, _, _, b6⟩ := h8
  have hM := h1.2.1
  rcases hmm with m0 | m1 | m2
  · rw [sizeN, if_neg (by omega), if_neg (by omega)]; exact hM
  · rw [sizeN, if_pos m1]; omega
  · have := (b6 m2).2.2.1; have := n4 m2; omega
/-- With true outcomes a kind is the truth. -/
theorem true_at {xs : List Bool} {ks : List Int} (h : Sound xs ks) (h0 : doubts ks = 0) (i : Nat) (hi : i < ks.length) (hx : ks.length = xs.length) : ∃ (k : Int) (b : Bool), ks[i]? = some k ∧ xs[i]? = some b ∧ ((k = 1 ∧ b = true) ∨ (k = 2 ∧ b = false)) := by
  obtain ⟨k, b, h1, h2, h3⟩ := sound_at h i hi hx
  refine ⟨k, b, h1, h2, ?_⟩
  rcases h3 with rfl | h3
  · exfalso
    have := List.count_eq_zero.1 h0
    exact this (List.mem_of_getElem? h1)
  · exact h3
theorem mapped_le {N R Sp M L k : Nat} {m4 : Int} (hm : m4 = (M : Int)) (hR : R ≤ N) (hN : N ≤ 512) (hS : Sp ≤ R) (hM : 1 ≤ M) (hM2 : M ≤ 50) (hL : lg M = L) (h : k ≤ (N - R) + 2 * (R / M) + Sp * (2 + L)) : (k : Int) ≤ mapZ ((N : Int) - (R : Int)) R Sp m4 := by
  subst hm
  rw [mapZ, if_pos (by omega), logZ, if_pos (by omega), Int.toNat_natCast, hL]
  have e : ((R : Int) / (M : Int)) = ((R / M : Nat) : Int) := by simp
  have e2 : (Sp : Int) * (2 + (L : Int)) = ((Sp * (2 + L) : Nat) : Int) := by simp
  rw [e, e2]
  omega

set_option maxRecDepth 100000 in
set_option maxHeartbeats 16000000 in
theorem lawTruth_any (t0 f0 m0 : Int) (set : List Bool) (Ab : Option Addr) (nb cb : Nat) (w : World) (hrb : Rd w w.heap.size 1 Ab nb (set.map Value.bool)) (hnb : nb ≤ cb) (hcb : cb ≤ maxLen) :
    Calls Try.prog 7 #[.int .i64 t0, .slice Ab nb cb, .int .i64 f0, .int .i64 m0] w fun e w' => e = .returned (.bool true) ∧ Below w.heap.size w w' := by
  obtain ⟨r1, hr1⟩ : ∃ r, t0 % 4 = r := ⟨_, rfl⟩
  have b1 : 0 ≤ r1 ∧ r1 < 4 := by omega
  obtain ⟨b11, b12⟩ := b1
  obtain ⟨m, hm⟩ : ∃ m, min nb 39 = m := ⟨_, rfl⟩
  have hm39 : m ≤ 39 := by omega
  obtain ⟨r3, hr3⟩ : ∃ r, f0 % (65536 - ((m : Int) + 1) + 1) = r := ⟨_, rfl⟩
  have b31 : 0 ≤ r3 := by rw [← hr3]; exact Int.emod_nonneg _ (by omega)
  have b32 : r3 < 65536 - ((m : Int) + 1) + 1 := by rw [← hr3]; exact Int.emod_lt_of_pos _ (by omega)
  obtain ⟨r4, hr4⟩ : ∃ r, m0 % 50 = r := ⟨_, rfl⟩
  have b4 : 0 ≤ r4 ∧ r4 < 50 := by omega
  obtain ⟨b41, b42⟩ := b4
  have hbl : set.length = nb := by have := hrb.1; simpa using this
  obtain ⟨xs, hxs⟩ : ∃ xs, winL set = xs := ⟨_, rfl⟩
  have hxl : xs.length = m + 1 := by rw [← hxs, winL_len, hbl, hm]
  have HWI := Lib.hid (window_any set Ab nb cb m f0 m0 w hrb hnb hcb hm r3 r4 hr3 hr4)
  rw [hxs] at HWI
  obtain ⟨N, hN⟩ : ∃ N, m + 1 = N := ⟨_, rfl⟩
  rw [hN] at HWI hxl
  have hNi : (m : Int) + 1 = (N : Int) := by omega
  have hN40 : N ≤ 40 := by omega
  have hN1 : 1 ≤ N := by omega
  obtain ⟨M, hM⟩ : ∃ M : Nat, 1 + r4 = M := ⟨(1 + r4).toNat, by omega⟩
  obtain ⟨c, hc⟩ : ∃ c, lg N + 3 = c := ⟨_, rfl⟩
  have hlg := lg_le N hN1 (by omega)
  obtain ⟨L, hL⟩ : ∃ L, lg M = L := ⟨_, rfl⟩
  have hM0 := hM
  have HL4 := Lib.hid hL
  have HM4 := Lib.hid hM
  have hM1 : 1 ≤ M := by omega
  have hM50 : M ≤ 50 := by omega
  clear hL
  have hc2 : c ≤ 100 := by omega
  obtain ⟨W, hW⟩ : ∃ W, N * c = W := ⟨_, rfl⟩
  have hWb : W ≤ 760 := by rw [← hW]; exact Nat.le_trans (Nat.mul_le_mul hN40 (show c ≤ 19 by omega)) (by omega)
  have H1 := Lib.hid (fun w => mod_eq t0 4 r1 (by omega) (by omega) hr1 w)
  have hnok : newOk (1 + r1) r3 (N : Int) (M : Int) = true := by simp only [newOk, decide_eq_true_eq]; omega
  have HNW := Lib.hid (fun (W : World) => (show Calls Try.prog 8 #[.int .i64 (1 + r1), .agg #[.int .i64 r3, .int .i64 ((m : Int) + 1)], .int .i64 (1 + r4)] W (fun e w' => ∃ g, e = .returned (mptr g) ∧ W.heap.size ≤ g ∧ MapAt w' g ⟨1 + r1, r3, N, M, 0, 0, 0, [], 0⟩ ∧ Below W.heap.size W w') from by rw [hM, hNi]; exact mnew_yes (1 + r1) r3 N M W hnok))
  have HKD := Lib.hid (fun (S : Mst) (g : Nat) (W : World) (hS : MapAt W g S) (hk : Mok S) (hl : S.ks.length = S.N) (hNN : S.N = N) => (show Calls Try.prog 23 #[mptr g, .int .i64 ((m : Int) + 1)] W (fun e w' => ∃ A c, e = .returned (.tuple #[.slice A N c, .bool true]) ∧ Rd w' w'.heap.size 1 A N (ints S.ks) ∧ Below W.heap.size W w') from by rw [hNi]; exact kinds_any S g W hS hk hl N hNN))
  have hphi0 : phi c ⟨1 + r1, r3, N, M, 0, 0, 0, [], 0⟩ ≤ N * c := by
    rw [phi]
    dsimp only
    rw [if_neg (by simp; omega), if_neg (by omega), if_neg (by omega)]
    obtain ⟨q, rfl⟩ : ∃ q, N = q + 1 := ⟨N - 1, by omega⟩
    simp only [List.length_nil, Nat.sub_zero, Nat.add_sub_cancel]
    rw [Nat.mul_comm c q, Nat.add_mul]
    omega
  have hinv0 : TrInv xs N M c L 0 ⟨1 + r1, r3, N, M, 0, 0, 0, [], 0⟩ := ⟨⟨⟨Nat.zero_le _, by show N ≤ 512; omega, by show M ≤ 2000; omega, Nat.zero_le _, Nat.zero_le _, Nat.zero_le _⟩, by show 1 ≤ M; omega, fun h => (by cases h), Nat.zero_le _⟩, rfl, rfl, rfl, hphi0, ⟨hxl.symm, fun i k h => (by simp at h), fun h => (by cases h)⟩, rfl, ⟨0, 0, by simp [cT], rfl, Nat.zero_le _, fun _ _ => .inl rfl, fun _ h => (by cases h), fun h => (by cases h)⟩⟩
  have HI0 := Lib.hid hinv0
  have HC := Lib.hid hc
  have HWW := Lib.hid hW
  have HXL := Lib.hid hxl
  have HN := Lib.hid hN
  have HNI := Lib.hid hNi
  have hf1 : r3 ≤ 65536 := by omega
  clear hr1 hr3 hr4 hN hM hc hW hnok hM0 hphi0 hinv0 hlg hxs hxl hbl hm hrb hcb hNi
  go_enter Try.func7, Try.ntmps7
  go_wp2_with fail
  refine (H1.out _).mono ?_
  rintro e w1 ⟨rfl, rfl⟩
  go_wp2_with fail
  refine HWI.out.mono ?_
  rintro e w1 ⟨A1, c1, rfl, hR1, hb1⟩
  have HR1 := Lib.hid (hR1.alloc' (.cells #[.int .i64 r3, .int .i64 ((m : Int) + 1)] 23) (Nat.le_refl _))
  have HB1 := Lib.hid (Box.alloc_ (w := w1) (cs := #[.int .i64 r3, .int .i64 ((m : Int) + 1)]) (e := 23))
  have hbw1 := ext_alloc hb1 (.cells #[.int .i64 r3, .int .i64 ((m : Int) + 1)] 23)
  obtain ⟨gR, hgR⟩ : ∃ gR, w1.heap.size = gR := ⟨_, rfl⟩
  have hgRs : gR < (w1.alloc (.cells #[.int .i64 r3, .int .i64 ((m : Int) + 1)] 23)).heap.size := by simp; omega
  rw [hgR] at HR1 HB1
  obtain ⟨W1, hW1⟩ : ∃ W1, w1.alloc (.cells #[.int .i64 r3, .int .i64 ((m : Int) + 1)] 23) = W1 := ⟨_, rfl⟩
  rw [hW1] at HR1 HB1 hbw1 hgRs
  clear hR1 hb1 HWI
  go_upto_region 3 with fail
  try rw [hW1]
  try rw [hgR]
  obtain ⟨qR, zR, lR⟩ := HB1.out
  clear hW1 hgR
  go_wp2_with fail
  refine (HNW.out _).mono ?_
  rintro e w2 ⟨g, rfl, hg0, hS2, hb2⟩
  have HR2 := Lib.hid ((HR1.out.below hb2 (by omega)).more (show gR ≤ g by omega))
  have HB2 := Lib.hid (HB1.out.below hb2)
  have hbw2 := ext_trans hbw1 hb2
  have hgw : w.heap.size ≤ g := by have := hbw1.size; omega
  have hgRg : gR ≠ g := by omega
  have HS2 := Lib.hid hS2
  have hgl : g < w2.heap.size := hS2.cell.2.2.2.2.2.2.2.2.2
  obtain ⟨l0, hl0⟩ : ∃ l : Nat, ([] : List Int).length = l := ⟨_, rfl⟩
  obtain ⟨z0, hz0⟩ : ∃ z : Nat, sizeN ⟨1 + r1, r3, N, M, 0, 0, 0, [], 0⟩ = z := ⟨_, rfl⟩
  have HNX := Lib.hid (next_any ⟨1 + r1, r3, N, M, 0, 0, 0, [], 0⟩ g w2 hS2 HI0.out.1.1 (by show 0 < N; omega) ⟨b31, hf1⟩ l0 hl0 z0 hz0)
  dsimp only at HNX
  have HLZ := Lib.hid (And.intro hl0 hz0)
  clear hb2 hbw1 hS2 HB1 hl0 hz0 hg0 HR1 qR zR lR hgRs HNW
  go_wp2_with fail
  refine HNX.out.mono ?_
  rintro e w3 ⟨rfl, hb3⟩
  have HS3 := Lib.hid (HS2.out.below hb3)
  have hg3 := one_below (one_refl w2 g) hb3
  have hbq : w2.heap.size ≤ w3.heap.size := hb3.size
  clear hb3 HS2 HNX
  unfold reqV
  go_wp2_with fail
  have hvq : ∀ (l z : Nat), 1 ≤ z → z ≤ M → l + z ≤ N → vq (1 + r1) (r3 + l) z 0 0 = true := by
    intro l z h1 h2 h3
    have hlim : 125 ≤ limZ (1 + r1) := by
      rcases (show r1 = 0 ∨ r1 = 1 ∨ r1 = 2 ∨ r1 = 3 by omega) with rfl | rfl | rfl | rfl <;> decide
    simp only [vq, decide_eq_true_eq]
    have := HN.out
    exact .inl ⟨by omega, by omega, by omega, by omega, by omega, by omega, trivial, trivial⟩
  have HVQ := Lib.hid hvq
  clear hvq
  go_loopw [12, 13, 14] (fun kk p ok wr => ∃ (k : Nat) (S : Mst) (b : Nat) (a1 a2 a3 : Int) (y : Bool), kk = .int .i64 k ∧ p = .pointer (some ⟨b, 0, none⟩) ∧ ok = .bool y ∧ decide (S.ks.length < N) = y ∧ (TrInv xs N M c L k S ∧ (S.tb = 1 + r1 ∧ S.fs = r3) ∧ (y = true → a1 = 1 + r1 ∧ a2 = r3 + (S.ks.length : Nat) ∧ a3 = (sizeN S : Nat))) ∧ MapAt wr g S ∧ Box wr b (rqC a1 a2 a3) ∧ w2.heap.size ≤ b ∧ w2.grownBy wr (some g)) (fun kk _ _ _ => N * c - (intOf kk).toNat)
  case atStart => exact ⟨0, ⟨1 + r1, r3, N, M, 0, 0, 0, [], 0⟩, _, _, _, _, true, rfl, rfl, rfl, by simp; omega, ⟨HI0.out, ⟨rfl, rfl⟩, fun _ => ⟨rfl, by rw [HLZ.out.1], by rw [HLZ.out.2]⟩⟩, HS3.out.below ((Below.refl _ _).alloc (Nat.le_refl _) _), Box.alloc_, hbq, one_alloc hg3 _⟩
  case round =>
    obtain ⟨k, S, b, a1, a2, a3, y, rfl, rfl, rfl, hy, ⟨hI, htf, ha⟩, hSk, hBk, hbb, hgr⟩ := hrel
    have HSk := Lib.hid hSk
    have HBk := Lib.hid hBk
    have HI := Lib.hid hI
    have HTF := Lib.hid htf
    have HAa := Lib.hid ha
    have HBR := Lib.hid (HB2.out.grown hgr hgRg)
    have HRb := Lib.hid (HR2.out.grown hgl hgr)
    have hgw2 : w2.heap.size ≤ wr.heap.size := hgr.size
    clear hSk hBk hI htf ha HS3 hg3 hbq
    cases y
    · have hl : S.ks.length = S.N := by
        have h1 := HI.out.1.1.1
        have h2 := HI.out.2.1
        have h3 : ¬ S.ks.length < N := by simpa using hy
        omega
      have HL := Lib.hid hl
      have hbe : Below w.heap.size w wr := hbw2.grown hgr hbw2.size (fun i hi => by injection hi with hi; omega)
      have hk760 : k ≤ 760 := by
        have h1 := HI.out.2.2.2.2.1
        have h2 := HWW.out
        omega
      clear hy hl HBk
      obtain ⟨qR, zR, lR⟩ := HBR.out
      go_wp2_with fail
      refine (HKD.out S g _ HSk.out HI.out.1.1 HL.out HI.out.2.1).mono ?_
      rintro e w4 ⟨A4, c4, rfl, hR4, hb4⟩
      have HR4 := Lib.hid hR4
      have HRb4 := Lib.hid (HRb.out.below hb4 (by omega))
      have HS4 := Lib.hid (HSk.out.below hb4)
      have hbe4 := ext_trans hbe hb4
      have hkl : S.ks.length = N := by rw [HL.out, HI.out.2.1]
      have HKL := Lib.hid hkl
      clear hb4 hR4 qR zR lR hkl
      go_wp2_with fail
      go_loopw [17, 18, 19, 20] (fun rd sp ii wt wq => ∃ i : Nat, i ≤ N ∧ ii = .int .i64 i ∧ rd = .int .i64 (cT xs i) ∧ sp = .int .i64 (stN xs i) ∧ wq = w4) (fun _ _ ii _ _ => N - (intOf ii).toNat)
      case atStart => exact ⟨0, by omega, rfl, rfl, rfl, rfl⟩
      case round =>
        obtain ⟨i, hi, rfl, rfl, rfl, hwq⟩ := hrel
        obtain rfl : w4 = wr := hwq.symm
        have hct := cT_le xs i
        have hst := stN_le xs i
        have hc1 : cT xs (i + 1) = cT xs i + if xs[i]? = some true then 1 else 0 := rfl
        have hs1 : stN xs (i + 1) = stN xs i + if xs[i]? = some true ∧ (i = 0 ∨ xs[i - 1]? = some false) then 1 else 0 := rfl
        by_cases hlt : i < N
        · obtain ⟨kk, bb, hkk, hbb2, hcase⟩ := true_at HI.out.2.2.2.2.2.1.2.1 HI.out.2.2.2.2.2.2.1 i (by rw [HKL.out]; exact hlt) (by rw [HKL.out, HXL.out])
          obtain ⟨bk, ok, rfl, _, hck⟩ := HR4.out.2 (by omega)
          obtain ⟨bx, ox, rfl, _, hcx⟩ := HRb4.out.2 (by omega)
          have z1 : w4.cell? ⟨bk, ok + i, none⟩ = some (.int .i64 kk) := hck i _ (by rw [List.getElem?_map, hkk]; rfl)
          have z2 : w4.cell? ⟨bx, ox + i, none⟩ = some (.bool bb) := hcx i _ (by rw [List.getElem?_map, hbb2]; rfl)
          obtain ⟨C, hC⟩ : ∃ C, cT xs i = C := ⟨_, rfl⟩
          obtain ⟨Sp, hSp⟩ : ∃ Sp, stN xs i = Sp := ⟨_, rfl⟩
          rw [hC] at hc1 hct hst ⊢
          rw [hSp] at hs1 hst ⊢
          rw [hbb2] at hc1 hs1
          rcases hcase with ⟨rfl, rfl⟩ | ⟨rfl, rfl⟩
          · rw [if_pos rfl] at hc1
            by_cases hi0 : i = 0
            · subst hi0
              rw [if_pos ⟨rfl, .inl rfl⟩] at hs1
              have HC1 := Lib.hid hc1
              have HS1 := Lib.hid hs1
              simp only [Nat.add_zero] at z1 z2
              clear hkk hbb2 hck hcx hC hSp hc1 hs1
              go_wp2_with fail
              go_roundw
              case rel => exact ⟨1, by omega, by go_num, by rw [HC1.out]; go_num, by rw [HS1.out]; go_num, by trivial⟩
              case measure => simp [intOf]; omega
            · have hpl : i - 1 < xs.length := by rw [HXL.out]; omega
              obtain ⟨pb, hpb⟩ : ∃ pb, xs[i - 1]? = some pb := ⟨_, List.getElem?_eq_getElem hpl⟩
              have z3 : w4.cell? ⟨bx, ox + (i - 1), none⟩ = some (.bool pb) := hcx (i - 1) _ (by rw [List.getElem?_map, hpb]; rfl)
              have f3 : IntKind.i64.wrap ((i : Int) - 1) = ((i - 1 : Nat) : Int) := by rw [IntWalk.i64_in _ ⟨by omega, by omega⟩]; omega
              have hi1 : i - 1 < N := by omega
              have hid : ((i : Int) == 0) = false := by simp; omega
              rw [hpb] at hs1
              have HC1 := Lib.hid hc1
              have hipos : 0 < i := by omega
              clear hkk hbb2 hck hcx hC hSp hc1 hpb hpl
              cases pb
              · rw [if_pos ⟨rfl, .inr rfl⟩] at hs1
                have HS1 := Lib.hid hs1
                clear hs1 hi0
                go_wp2_with fail
                go_roundw
                case rel => exact ⟨i + 1, by omega, by go_num, by rw [HC1.out]; go_num, by rw [HS1.out]; go_num, by trivial⟩
                case measure => simp [intOf]; omega
              · rw [if_neg (by rintro ⟨_, h | h⟩; exact hi0 h; cases h), Nat.add_zero] at hs1
                have HS1 := Lib.hid hs1
                clear hs1 hi0
                go_wp2_with fail
                go_roundw
                case rel => exact ⟨i + 1, by omega, by go_num, by rw [HC1.out]; go_num, (by rw [HS1.out]; first | done | rfl), by trivial⟩
                case measure => simp [intOf]; omega
          · rw [if_neg (by simp), Nat.add_zero] at hc1
            rw [if_neg (by simp), Nat.add_zero] at hs1
            have HC1 := Lib.hid hc1
            have HS1 := Lib.hid hs1
            clear hkk hbb2 hck hcx hC hSp hc1 hs1
            go_wp2_with fail
            go_roundw
            case rel => exact ⟨i + 1, by omega, by go_num, (by rw [HC1.out]; first | done | rfl), (by rw [HS1.out]; first | done | rfl), by trivial⟩
            case measure => simp [intOf]; omega
        · obtain rfl : i = N := by omega
          have hqe := q_end L xs S HI.out.1.2.1 HI.out.2.2.2.2.2.2.2 (by rw [HKL.out, HXL.out])
          rw [HXL.out, HI.out.2.2.1, HI.out.2.2.2.1] at hqe
          obtain ⟨C, hC⟩ : ∃ C, cT xs i = C := ⟨_, rfl⟩
          obtain ⟨Sp, hSp⟩ : ∃ Sp, stN xs i = Sp := ⟨_, rfl⟩
          rw [hC] at hqe hct hst ⊢
          rw [hSp] at hqe hst ⊢
          have hmz := mapped_le (m4 := 1 + r4) HM4.out hct (by omega) hst hM1 hM50 HL4.out hqe
          obtain ⟨V, hV⟩ : ∃ V, mapZ ((i : Int) - (C : Int)) C Sp (1 + r4) = V := ⟨_, rfl⟩
          have HMP := Lib.hid (fun (W : World) => (show Calls Try.prog 26 #[.int .i64 ((i : Int) - (C : Int)), .int .i64 C, .int .i64 Sp, .int .i64 (1 + r4)] W fun e w' => e = .returned (.int .i64 V) ∧ Below W.heap.size W w' from hV ▸ map_any _ _ _ _ W))
          rw [hV] at hmz
          have hdv : decide ((k : Int) ≤ V) = true := by simpa using hmz
          have HQ := Lib.hid (fun (W : World) (h : MapAt W g S) => (show Calls Try.prog 14 #[mptr g] W fun e w' => e = .returned (.int .i64 k) ∧ W = w' from HI.out.2.2.2.1 ▸ queries_any S g W h))
          clear hC hSp hV hqe hc1 hs1
          go_wp2_with fail
          refine (awake_any _).mono ?_
          rintro e w5 ⟨rfl, hb5⟩
          have HS5 := Lib.hid (HS4.out.below hb5)
          have hbe5 := ext_trans hbe4 hb5
          clear hb5
          go_wp2_with fail
          refine (HQ.out _ HS5.out).mono ?_
          rintro e w6 ⟨rfl, rfl⟩
          go_wp2_with fail
          refine (HMP.out _).mono ?_
          rintro e w7 ⟨rfl, hb7⟩
          go_wp2
          go_ret
          exact ⟨by first | rfl | simp [hmz], ext_trans hbe5 hb7⟩
    · have hl : S.ks.length < N := by simpa using hy
      obtain ⟨rfl, rfl, rfl⟩ := HAa.out rfl
      obtain ⟨hnx, hkW, hzM⟩ := tr_next HI.out hl (by omega) HC.out hc2 HL4.out
      rw [HWW.out] at hkW
      have hk760 : k < 760 := by omega
      obtain ⟨n1, n2, n3, _⟩ := size_bd HI.out.1 (by rw [HI.out.2.1]; exact hl)
      rw [HI.out.2.1] at n2
      obtain ⟨l, hll⟩ : ∃ l, S.ks.length = l := ⟨_, rfl⟩
      obtain ⟨z, hz⟩ : ∃ z, sizeN S = z := ⟨_, rfl⟩
      obtain ⟨yv, hyv⟩ : ∃ yv, allT xs l z = yv := ⟨_, rfl⟩
      rw [hll, hz] at HBk n2
      rw [hz] at n1 n3 hzM
      obtain ⟨o, ho⟩ : ∃ o, truthO (1 + r1) yv = o := ⟨_, rfl⟩
      have hoy := truth_yes (1 + r1) yv
      rw [ho] at hoy
      rw [hll, hz, hyv, ← hoy.2, ← hoy.1] at hnx
      have HTR := Lib.hid (fun (W : World) (B : Nat) (h : Rd W B 1 A1 N (xs.map Value.bool)) => truth_any (1 + r1) r3 l z xs A1 N c1 B W h (by omega) (by omega) ⟨b31, hf1⟩ yv hyv)
      rw [ho] at HTR
      have HFD := Lib.hid (fun (W : World) (h : MapAt W g S) => feed_any S g o W h HI.out.1 (by rw [HI.out.2.1]; exact hl) (by rw [HI.out.2.2.2.1]; omega))
      have hsm := feed_same S (oYes o) (oNo o)
      obtain ⟨T, hT⟩ : ∃ T, feedS S (oYes o) (oNo o) = T := ⟨_, rfl⟩
      rw [hT] at HFD hnx hsm
      have HN2 := Lib.hid hnx
      have HTF2 := Lib.hid (And.intro (hsm.1.trans HTF.out.1) (hsm.2.trans HTF.out.2))
      have HVD := Lib.hid (fun (W : World) => (show Calls Try.prog 25 #[reqV (1 + r1) (r3 + (l : Int)) z] W fun e w' => e = .returned (.bool true) ∧ Below W.heap.size W w' from HVQ.out l z n1 hzM n2 ▸ valid_any (1 + r1) (r3 + l) z 0 0 W))
      have hdk : decide ((2000 : Int) < (k : Int)) = false := by simp; omega
      have hdk2 : decide (2000 < k) = false := by simp; omega
      have hMi := HM4.out
      have hni := HNI.out
      have d1 : decide ((1 + r4) < (z : Int)) = false := by simp; omega
      have d2 : decide (r3 + (l : Int) < r3) = false := by simp; omega
      have d3 : decide (r3 + ((m : Int) + 1) < r3 + (l : Int) + (z : Int)) = false := by simp; omega
      clear hy hll hz hyv ho hoy HAa hl hT hnx hsm hMi hni
      obtain ⟨qR, zR, lR⟩ := HBR.out
      obtain ⟨qk, zk, lk⟩ := HBk.out
      go_wp2_with fail
      refine (HVD.out _).mono ?_
      rintro e w4 ⟨rfl, hb4⟩
      have HS4 := Lib.hid (HSk.out.below hb4)
      have HB4 := Lib.hid (HBk.out.below hb4)
      have HBR4 := Lib.hid (HBR.out.below hb4)
      have HRb4 := Lib.hid (HRb.out.below hb4 (by omega))
      have hgr4 := one_below hgr hb4
      clear hb4 HSk HBk HBR HRb hgr qR zR lR qk zk lk HVD
      obtain ⟨qR, zR, lR⟩ := HBR4.out
      obtain ⟨qk, zk, lk⟩ := HB4.out
      go_wp2_with fail
      refine (HTR.out _ _ HRb4.out).mono ?_
      rintro e w5 ⟨rfl, hb5⟩
      have HS5 := Lib.hid (HS4.out.below hb5)
      have HB5 := Lib.hid (HB4.out.below hb5)
      have hgr5 := one_below hgr4 hb5
      clear hb5 HS4 HB4 HBR4 HRb4 hgr4 qR zR lR qk zk lk HTR
      go_wp2_with fail
      refine (HFD.out _ HS5.out).mono ?_
      rintro e w8 ⟨rfl, hS8, hg8⟩
      have HS8 := Lib.hid hS8
      have HB8 := Lib.hid (HB5.out.grown hg8 (by omega))
      have hgr8 := one_trans hgr5 hg8
      have hgw8 : w2.heap.size ≤ w8.heap.size := hgr8.size
      obtain ⟨q8, z8, l8⟩ := HB8.out
      clear hS8 hg8 HS5 HB5 hgr5 HFD
      have hb88 : Below w8.heap.size w8 (w8.alloc (.cells (rqC (1 + r1) (r3 + (l : Int)) z) 31)) := (Below.refl w8.heap.size w8).alloc (Nat.le_refl _) _
      have HS9 := Lib.hid (HS8.out.below hb88)
      have HB9 := Lib.hid (Box.alloc_ (w := w8) (cs := rqC (1 + r1) (r3 + (l : Int)) z) (e := 31))
      by_cases hend : T.ks.length = N
      · have HNX := Lib.hid (next_end T g _ HS9.out HN2.out.1.1 (by rw [HN2.out.2.1]; exact hend))
        go_wp2_with fail
        refine HNX.out.mono ?_
        rintro e w9 ⟨rfl, hb9⟩
        have HB10 := Lib.hid (HB9.out.below hb9)
        have hb10 := hb88.trans (hb9.mono hb88.size)
        obtain ⟨q9, z9, l9⟩ := HB10.out
        have HBf := Lib.hid (box_put5 HB10.out (.int .i64 0) (.int .i64 0) (.int .i64 0) (.int .i64 0) (.int .i64 0))
        have hbf := below_put5 hb10 (Nat.le_refl _) (.int .i64 0) (.int .i64 0) (.int .i64 0) (.int .i64 0) (.int .i64 0)
        have HSf := Lib.hid (HS8.out.below hbf)
        have hgrf := one_below hgr8 hbf
        clear hb9 hb10 q8 z8 l8 hbf
        unfold reqV
        go_wp2_with fail
        go_roundw
        case rel => exact ⟨k + 1, T, _, 0, 0, 0, false, by go_num, rfl, rfl, by simp; omega, ⟨HN2.out, HTF2.out, fun h => (by cases h)⟩, HSf.out, HBf.out, hgw8, hgrf⟩
        case measure => have := HWW.out; simp [intOf]; omega
      · have hlt : T.ks.length < N := by have := HN2.out.1.1.1; have := HN2.out.2.1; omega
        obtain ⟨l1, hl1⟩ : ∃ l : Nat, T.ks.length = l := ⟨_, rfl⟩
        obtain ⟨z1, hz1⟩ : ∃ z : Nat, sizeN T = z := ⟨_, rfl⟩
        have HNX := Lib.hid (next_any T g _ HS9.out HN2.out.1.1 (by rw [HN2.out.2.1]; exact hlt) (by rw [HTF2.out.2]; exact ⟨b31, hf1⟩) l1 hl1 z1 hz1)
        rw [HTF2.out.1, HTF2.out.2] at HNX
        have HL1 := Lib.hid (And.intro hl1 hz1)
        clear hl1 hz1 hend
        go_wp2_with fail
        refine HNX.out.mono ?_
        rintro e w9 ⟨rfl, hb9⟩
        have HB10 := Lib.hid (HB9.out.below hb9)
        have hb10 := hb88.trans (hb9.mono hb88.size)
        obtain ⟨q9, z9, l9⟩ := HB10.out
        have HBf := Lib.hid (box_put5 HB10.out (.int .i64 (1 + r1)) (.int .i64 (r3 + (l1 : Int))) (.int .i64 z1) (.int .i64 0) (.int .i64 0))
        have hbf := below_put5 hb10 (Nat.le_refl _) (.int .i64 (1 + r1)) (.int .i64 (r3 + (l1 : Int))) (.int .i64 z1) (.int .i64 0) (.int .i64 0)
        have HSf := Lib.hid (HS8.out.below hbf)
        have hgrf := one_below hgr8 hbf
        clear hb9 hb10 q8 z8 l8 hbf
        unfold reqV
        go_wp2_with fail
        go_roundw
        case rel => exact ⟨k + 1, T, _, 1 + r1, r3 + (l1 : Int), z1, true, by go_num, rfl, rfl, by simp; omega, ⟨HN2.out, HTF2.out, fun _ => ⟨rfl, by rw [HL1.out.1], by rw [HL1.out.2]⟩⟩, HSf.out, HBf.out, hgw8, hgrf⟩
        case measure => have := HWW.out; simp [intOf]; omega
theorem truthI (t0 f0 m0 : Int) (set : List Bool) (Ab : Option Addr) (cb : Nat) (w : World) (hrb : Rd w w.heap.size 1 Ab set.length ((set.map fun x => [Value.bool x]).flatten)) (hnb : set.length ≤ cb) (hcb : cb ≤ maxLen) :
    Calls Try.prog 7 #[.int .i64 t0, .slice Ab set.length cb, .int .i64 f0, .int .i64 m0] w fun e w' => e = .returned (.bool true) ∧ Below w.heap.size w w' :=
  lawTruth_any t0 f0 m0 set Ab set.length cb w (by rwa [flatten_one] at hrb) hnb hcb
end Go.Proofs.Ytdkkfahnkenplaa

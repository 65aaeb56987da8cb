/- Layer 25: the law MapBudget. -/
import Derived.Test.YtdkkfahnkenplaaMapQ
import Derived.Test.YtdkkfahnkenplaaMapO
import Derived.Test.YtdkkfahnkenplaaMapP
import Derived.Test.YtdkkfahnkenplaaBytesS
import Derived.Deep.DeepCutAuto
set_option linter.unusedVariables false
set_option linter.unusedSimpArgs false
namespace Go.Proofs.Ytdkkfahnkenplaa
open Go.RowKit

theorem mod_eq (x n r : Int) (hn : 1 ≤ n) (hn2 : n ≤ 1000000000) (h : x % n = r) (w : World) : Calls Try.prog 20 #[.int .i64 x, .int .i64 n] w fun e w' => e = .returned (.int .i64 r) ∧ w = w' := by
  subst h; exact mod_any x n hn hn2 w
set_option maxHeartbeats 1000000 in
theorem feed_closed (S : Mst) (g : Nat) (o : Ocv) (w : World) (hS : MapAt w g S) (hk : Mok S) (hl : S.ks.length = S.N) :
    Calls Try.prog 17 #[mptr g, ocV o] w fun e w' => e = .returned (.int .i64 12) ∧ Below w.heap.size w w' := by
  obtain ⟨v, f, ex, dA, dn, dc, cd, lv, mo, nx, oA, on, oc⟩ := o
  have hb0 : Below w.heap.size w (w.alloc (.cells #[.int .i64 v, .int .i64 f, .int .i64 ex, .slice dA dn dc, .int .i64 cd, .int .i64 lv, .bool mo, .int .i64 nx, .slice oA on oc] 49)) := (Below.refl _ _).alloc (Nat.le_refl _) _
  have HE := Lib.hid (ended_any S g _ (hS.below hb0) hk true (by simpa using hl))
  clear hS hk hl
  go_enter Try.func17, Try.ntmps17
  go_wp2_with fail
  refine HE.out.mono ?_
  rintro e w1 ⟨rfl, hb1⟩
  go_wp2
  go_ret
  exact ⟨rfl, hb0.trans (hb1.mono hb0.size)⟩
/-- What is known at the head of the loop. -/
def BudInv (N M c k : Nat) (S : Mst) : Prop := MInv S ∧ S.N = N ∧ S.M = M ∧ S.q = k ∧ phi c S + k ≤ N * c
theorem bud_next {N M c k : Nat} {S : Mst} (h : BudInv N M c k S) (hl : S.ks.length < N) (hN : N ≤ 512) (hc : lg N + 3 = c) (hc2 : c ≤ 100) (o : Ocv) : BudInv N M c (k + 1) (feedS S (oYes o) (oNo o)) ∧ k < N * c ∧ (feedS S (oYes o) (oNo o)).tb = S.tb ∧ (feedS S (oYes o) (oNo o)).fs = S.fs := by
  obtain ⟨h1, rfl, h3, h4, h5⟩ := h
  have hm : S.N * c ≤ 512 * 100 := Nat.mul_le_mul hN hc2
  obtain ⟨f1, f2, f3, f4, f5⟩ := feed_phi c S (oYes o) (oNo o) h1 hl (by omega) (yes_no o) (by omega)
  refine ⟨⟨f1, f2, by rw [f3, h3], by rw [f4, h4], by omega⟩, by omega, ?_, ?_⟩
  all_goals
    unfold feedS halveS
    repeat' split
    all_goals rfl
theorem at8 {w : World} {B n : Nat} {A : Option Addr} {xs : List Int} (h : Rd w B 1 A n (by8 xs)) (k : Nat) (hk : k < n) (hx : ∀ x ∈ xs, 0 ≤ x ∧ x ≤ 255) : ∃ b off x, A = some ⟨b, off, none⟩ ∧ b < B ∧ w.cell? ⟨b, off + k, none⟩ = some (.int .u8 x) ∧ 0 ≤ x ∧ x ≤ 255 := by
  have hl : xs.length = n := by have := h.1; simpa using this
  obtain ⟨b, off, e, hb, hc⟩ := h.2 (by omega)
  have hk2 : k < xs.length := by omega
  exact ⟨b, off, xs[k], e, hb, hc k _ (by simp [List.getElem?_eq_getElem hk2]), hx _ (List.getElem_mem hk2)⟩
abbrev rqC (a b c : Int) : Array Value := #[.int .i64 a, .int .i64 b, .int .i64 c, .int .i64 0, .int .i64 0]

set_option maxRecDepth 100000 in
set_option maxHeartbeats 8000000 in
theorem lawBudget_any (t0 n0 f0 m0 : Int) (A : Option Addr) (n c0 : Nat) (xs : List Int) (w : World) (hr : Rd w w.heap.size 1 A n (by8 xs)) (hn : n ≤ maxLen) (hx : ∀ x ∈ xs, 0 ≤ x ∧ x ≤ 255) :
    Calls Try.prog 6 #[.int .i64 t0, .int .i64 n0, .int .i64 f0, .int .i64 m0, .slice A n c0] w fun e w' => e = .returned (.bool true) ∧ Below w.heap.size w w' := by
  unfold maxLen at hn
  obtain ⟨r1, hr1⟩ : ∃ r, t0 % 4 = r := ⟨_, rfl⟩
  obtain ⟨r2, hr2⟩ : ∃ r, n0 % 60 = r := ⟨_, rfl⟩
  have b2 : 0 ≤ r2 ∧ r2 < 60 := by omega
  obtain ⟨b21, b22⟩ := b2
  have b1 : 0 ≤ r1 ∧ r1 < 4 := by omega
  obtain ⟨b11, b12⟩ := b1
  obtain ⟨r3, hr3⟩ : ∃ r, f0 % (65536 - (1 + r2) + 1) = r := ⟨_, rfl⟩
  have b31 : 0 ≤ r3 := by rw [← hr3]; exact Int.emod_nonneg _ (by omega)
  have b32 : r3 < 65536 - (1 + r2) + 1 := by rw [← hr3]; exact Int.emod_lt_of_pos _ (by omega)
  obtain ⟨r4, hr4⟩ : ∃ r, m0 % 80 = r := ⟨_, rfl⟩
  have b4 : 0 ≤ r4 ∧ r4 < 80 := by omega
  obtain ⟨b41, b42⟩ := b4
  obtain ⟨N, hN⟩ : ∃ N : Nat, 1 + r2 = N := ⟨(1 + r2).toNat, by omega⟩
  obtain ⟨M, hM⟩ : ∃ M : Nat, 1 + r4 = M := ⟨(1 + r4).toNat, by omega⟩
  obtain ⟨c, hc⟩ : ∃ c, lg N + 3 = c := ⟨_, rfl⟩
  have hN60 : N ≤ 60 := by omega
  have hN1 : 1 ≤ N := by omega
  have hlg := lg_le N hN1 (by omega)
  have hc2 : c ≤ 100 := by omega
  obtain ⟨W, hW⟩ : ∃ W, N * c = W := ⟨_, rfl⟩
  have hWb : W ≤ 6000 := by rw [← hW]; exact Nat.le_trans (Nat.mul_le_mul hN60 hc2) (by omega)
  have hwz : winZ (1 + r2) = (W : Int) := by
    rw [winZ, if_pos (by omega), hN, logZ, if_pos (by omega), ← hW, ← hc]
    simp only [Int.toNat_natCast]
    have e : ((lg N + 3 : Nat) : Int) = 3 + (lg N : Int) := by omega
    rw [Int.natCast_mul, e]
  have H1 := Lib.hid (fun w => mod_eq t0 4 r1 (by omega) (by omega) hr1 w)
  have H2 := Lib.hid (fun w => mod_eq n0 60 r2 (by omega) (by omega) hr2 w)
  have H3 := Lib.hid (fun w => mod_eq f0 (65536 - (1 + r2) + 1) r3 (by omega) (by omega) hr3 w)
  have H4 := Lib.hid (fun w => mod_eq m0 80 r4 (by omega) (by omega) hr4 w)
  have HWN := Lib.hid (fun w => (show Calls Try.prog 24 #[.int .i64 (1 + r2)] w fun e w' => e = .returned (.int .i64 W) ∧ w = w' from hwz ▸ win_any (1 + r2) w))
  have hnok : newOk (1 + r1) r3 (N : Int) (M : Int) = true := by simp only [newOk, decide_eq_true_eq]; omega
  have HNW := Lib.hid (fun (W : World) (y : Int) (hy : y = 1 + r4) => (show Calls Try.prog 8 #[.int .i64 (1 + r1), .agg #[.int .i64 r3, .int .i64 (1 + r2)], .int .i64 y] W (fun e w' => ∃ g, e = .returned (mptr g) ∧ W.heap.size ≤ g ∧ MapAt w' g ⟨1 + r1, r3, N, M, 0, 0, 0, [], 0⟩ ∧ Below W.heap.size W w') from by rw [hy, hN, hM]; exact mnew_yes (1 + r1) r3 N M W hnok))
  have HKD := Lib.hid (fun (S : Mst) (g : Nat) (W : World) (hS : MapAt W g S) (hk : Mok S) (hl : S.ks.length = S.N) (hNN : S.N = N) => (show Calls Try.prog 23 #[mptr g, .int .i64 (1 + r2)] W (fun e w' => ∃ A c, e = .returned (.tuple #[.slice A N c, .bool true]) ∧ Rd w' w'.heap.size 1 A N (ints S.ks) ∧ Below W.heap.size W w') from by rw [hN]; exact kinds_any S g W hS hk hl N hNN))
  have HC := Lib.hid hc
  have HWW := Lib.hid hW
  have HR := Lib.hid hr
  have HX := Lib.hid hx
  have hf1 : r3 ≤ 65536 := by omega
  have hphi0 : phi c ⟨1 + r1, r3, N, M, 0, 0, 0, [], 0⟩ ≤ W := by
    rw [← hW, phi]
    dsimp only
    rw [if_neg (by simp; omega), if_neg (by omega), if_neg (by omega)]
    obtain ⟨q, rfl⟩ : ∃ q, N = q + 1 := ⟨N - 1, by omega⟩
    simp only [List.length_nil, Nat.sub_zero, Nat.add_sub_cancel]
    rw [Nat.mul_comm c q, Nat.add_mul]
    omega
  have hinv0 : BudInv N M c 0 ⟨1 + r1, r3, N, M, 0, 0, 0, [], 0⟩ := ⟨⟨⟨Nat.zero_le _, by show N ≤ 512; omega, by show M ≤ 2000; omega, Nat.zero_le _, Nat.zero_le _, Nat.zero_le _⟩, by show 1 ≤ M; omega, fun h => (by cases h), Nat.zero_le _⟩, rfl, rfl, rfl, by rw [hW]; exact hphi0⟩
  have HI0 := Lib.hid hinv0
  clear hr1 hr2 hr3 hr4 hN hM hc hW hwz hr hx hnok hphi0 hinv0 hlg
  go_enter Try.func6, Try.ntmps6
  go_wp2_with fail
  refine (H1.out _).mono ?_
  rintro e w1 ⟨rfl, rfl⟩
  go_wp2_with fail
  refine (H2.out _).mono ?_
  rintro e w1 ⟨rfl, rfl⟩
  go_wp2_with fail
  refine (H3.out _).mono ?_
  rintro e w1 ⟨rfl, rfl⟩
  go_upto_region 3 with fail
  have HB0 := Lib.hid (Box.alloc_ (w := w) (cs := #[.int .i64 r3, .int .i64 (1 + r2)]) (e := 23))
  have hbA : Below w.heap.size w (w.alloc (.cells #[.int .i64 r3, .int .i64 (1 + r2)] 23)) := (Below.refl _ _).alloc (Nat.le_refl _) _
  obtain ⟨W1, hW1⟩ : ∃ W1, w.alloc (.cells #[.int .i64 r3, .int .i64 (1 + r2)] 23) = W1 := ⟨_, rfl⟩
  rw [hW1] at HB0 hbA ⊢
  clear hW1
  have hS : (∀ i, W1.drew.cell? ⟨w.heap.size, i, none⟩ = (#[.int .i64 r3, .int .i64 (1 + r2)] : Array Value)[i]?) ∧ True ∧ True := ⟨HB0.out.1, trivial, trivial⟩
  refine rgs_start (fun w' => (∀ i, w'.cell? ⟨w.heap.size, i, none⟩ = (#[.int .i64 r3, .int .i64 (1 + r2)] : Array Value)[i]?) ∧ True ∧ True) (by kernel_rfl) ?_
  refine rgs_t (v := ?_) (some 32) 0 (by kernel_rfl) rfl rfl (by assumption) (.inl ⟨by rfl, fun w' hw => ?_⟩) ?_
  rotate_left
  · obtain ⟨q1, q2, q3⟩ := hw; go_simp <;> with_reducible rfl
  try simp only [Act.put, List.setIfInBounds_toArray, List.set_cons_zero, List.set_cons_succ]
  refine rgs_t (v := ?_) (some 33) 1 (by kernel_rfl) rfl rfl (by assumption) (.inl ⟨by rfl, fun w' hw => ?_⟩) ?_
  rotate_left
  · obtain ⟨q1, q2, q3⟩ := hw; go_simp <;> with_reducible rfl
  try simp only [Act.put, List.setIfInBounds_toArray, List.set_cons_zero, List.set_cons_succ]
  refine rgs_t (v := ?_) (some 34) 2 (by kernel_rfl) rfl rfl (by assumption) (.inl ⟨by rfl, fun w' hw => ?_⟩) ?_
  rotate_left
  · obtain ⟨q1, q2, q3⟩ := hw; go_simp <;> with_reducible rfl
  try simp only [Act.put, List.setIfInBounds_toArray, List.set_cons_zero, List.set_cons_succ]
  refine rgs_q (v := ?_) (some 35) 3 (by kernel_rfl) rfl rfl (by assumption) (by rfl) (fun w' hw K hK => ?_) ?_
  rotate_left
  · obtain ⟨q1, q2, q3⟩ := hw
    go_simp
    refine (H4.out _).mono ?_
    rintro e w1 ⟨rfl, rfl⟩
    exact hK
  try simp only [Act.put, List.setIfInBounds_toArray, List.set_cons_zero, List.set_cons_succ]
  refine rgs_t (v := ?_) (some 36) 4 (by kernel_rfl) rfl rfl (by assumption) (.inl ⟨by rfl, fun w' hw => ?_⟩) ?_
  rotate_left
  · obtain ⟨q1, q2, q3⟩ := hw; go_simp <;> with_reducible rfl
  try simp only [Act.put, List.setIfInBounds_toArray, List.set_cons_zero, List.set_cons_succ]
  refine rgs_c 5 (by kernel_rfl) rfl (by rfl) (fun K hK => ?_)
  go_simp
  refine (HNW.out _ _ (IntWalk.i64_in _ ⟨by omega, by omega⟩)).mono ?_
  rintro e w2 ⟨g, rfl, hg0, hS2, hb2⟩
  have hb2' : Below W1.heap.size W1 w2 := (below_drew (Below.refl _ _)).trans hb2
  have hSx : (∀ i, w2.cell? ⟨w.heap.size, i, none⟩ = (#[.int .i64 r3, .int .i64 (1 + r2)] : Array Value)[i]?) ∧ True ∧ True := ⟨(HB0.out.below hb2').1, trivial, trivial⟩
  refine hK _ _ hSx ?_
  clear hK K
  try simp only [Act.put, List.setIfInBounds_toArray, List.set_cons_zero, List.set_cons_succ]
  refine rgs_t (v := ?_) (some 12) 6 (by kernel_rfl) rfl rfl (by assumption) (.inl ⟨by rfl, fun w' hw => ?_⟩) ?_
  rotate_left
  · obtain ⟨q1, q2, q3⟩ := hw; go_simp <;> with_reducible rfl
  try simp only [Act.put, List.setIfInBounds_toArray, List.set_cons_zero, List.set_cons_succ]
  refine rgs_d (by kernel_rfl) ?_
  have hbw2 := ext_trans hbA hb2'
  have HS2 := Lib.hid hS2
  have hgl : g < w2.heap.size := hS2.cell.2.2.2.2.2.2.2.2.2
  have hgw : w.heap.size ≤ g := by have := hbA.size; have h2 : W1.heap.size ≤ g := hg0; omega
  obtain ⟨l0, hl0⟩ : ∃ l : Nat, ([] : List Int).length = l := ⟨_, rfl⟩
  obtain ⟨z0, hz0⟩ : ∃ z : Nat, sizeN ⟨1 + r1, r3, N, M, 0, 0, 0, [], 0⟩ = z := ⟨_, rfl⟩
  have HNX := Lib.hid (next_any ⟨1 + r1, r3, N, M, 0, 0, 0, [], 0⟩ g w2 hS2 HI0.out.1.1 (by show 0 < N; omega) ⟨b31, hf1⟩ l0 hl0 z0 hz0)
  dsimp only at HNX
  clear hb2 hb2' hbA hS hSx hS2 HB0 hl0 hz0 hg0
  go_wp2_with fail
  refine HNX.out.mono ?_
  rintro e w3 ⟨rfl, hb3⟩
  have HS3 := Lib.hid (HS2.out.below hb3)
  have hg3 := one_below (one_refl w2 g) hb3
  have hbq : w2.heap.size ≤ w3.heap.size := hb3.size
  clear hb3 HS2 HNX
  unfold reqV
  go_wp2_with fail
  go_loopw [13, 14, 15, 16] (fun kk p ok xx wr => ∃ (k : Nat) (S : Mst) (b : Nat) (a1 a2 a3 : Int) (y : Bool), kk = .int .i64 k ∧ p = .pointer (some ⟨b, 0, none⟩) ∧ ok = .bool y ∧ decide (S.ks.length < N) = y ∧ BudInv N M c k S ∧ (S.tb = 1 + r1 ∧ S.fs = r3) ∧ MapAt wr g S ∧ Box wr b (rqC a1 a2 a3) ∧ w2.heap.size ≤ b ∧ w2.grownBy wr (some g)) (fun kk _ _ _ _ => N * c - (intOf kk).toNat)
  case atStart => exact ⟨0, ⟨1 + r1, r3, N, M, 0, 0, 0, [], 0⟩, _, _, _, _, true, rfl, rfl, rfl, by simp; omega, HI0.out, ⟨rfl, rfl⟩, HS3.out.below ((Below.refl _ _).alloc (Nat.le_refl _) _), Box.alloc_, hbq, one_alloc hg3 _⟩
  case round =>
    obtain ⟨k, S, b, a1, a2, a3, y, rfl, rfl, rfl, hy, hI, ⟨htb, hfs⟩, hSk, hBk, hbb, hgr⟩ := hrel
    have HSk := Lib.hid hSk
    have HBk := Lib.hid hBk
    have HI := Lib.hid hI
    have HTF := Lib.hid (And.intro htb hfs)
    have hgw2 : w2.heap.size ≤ wr.heap.size := hgr.size
    clear hSk hBk hI htb hfs HS3 hg3 hbq
    cases y
    · have hl : S.ks.length = S.N := by
        have h1 := HI.out.1.1.1
        have h2 := HI.out.2.1
        have h3 : ¬ S.ks.length < N := by simpa using hy
        omega
      have HL := Lib.hid hl
      have HQ := Lib.hid (fun (W : World) (h : MapAt W g S) => (show Calls Try.prog 14 #[mptr g] W fun e w' => e = .returned (.int .i64 k) ∧ W = w' from HI.out.2.2.2.1 ▸ queries_any S g W h))
      have hbe : Below w.heap.size w wr := hbw2.grown hgr hbw2.size (fun i hi => by injection hi with hi; omega)
      clear hy hl
      go_wp2_with fail
      refine (HKD.out S g _ HSk.out HI.out.1.1 HL.out HI.out.2.1).mono ?_
      rintro e w4 ⟨A4, c4, rfl, _, hb4⟩
      have HS4 := Lib.hid (HSk.out.below hb4)
      have hbe4 := ext_trans hbe hb4
      clear hb4
      go_wp2_with fail
      refine (awake_any _).mono ?_
      rintro e w5 ⟨rfl, hb5⟩
      have HS5 := Lib.hid (HS4.out.below hb5)
      have hbe5 := ext_trans hbe4 hb5
      clear hb5
      go_wp2_with fail
      refine (HQ.out _ HS5.out).mono ?_
      rintro e w6 ⟨rfl, rfl⟩
      go_wp2_with fail
      refine (outcome_any 0 _).mono ?_
      rintro e w6 ⟨o, rfl, hb6, _⟩
      have HS6 := Lib.hid (HS5.out.below hb6)
      have hbe6 := ext_trans hbe5 hb6
      clear hb6
      go_wp2_with fail
      refine (feed_closed S g o _ HS6.out HI.out.1.1 HL.out).mono ?_
      rintro e w7 ⟨rfl, hb7⟩
      go_wp2
      go_ret
      exact ⟨rfl, ext_trans hbe6 hb7⟩
    · have hl : S.ks.length < N := by simpa using hy
      have hkW : k < W := by rw [← HWW.out]; exact (bud_next HI.out hl (by omega) HC.out hc2 (truthO 0 true)).2.1
      have hkW6 : k < 6000 := by omega
      have hdk : decide ((W : Int) ≤ (k : Int)) = false := by simp; omega
      have hdk2 : decide (W ≤ k) = false := by simp; omega
      clear hy
      go_upto_if 53 with (fail)
      go_cut [16] (fun v yy => ∃ x : Int, v = .int .i64 x ∧ yy = wr)
      case first =>
        by_cases hn0 : n = 0
        · subst hn0
          go_wp2_with fail
          go_meet
          case rel => exact ⟨0, rfl, rfl⟩
        · have hn1 : 0 < n := by omega
          obtain ⟨p, hp⟩ : ∃ p, k % n = p := ⟨_, rfl⟩
          have hpn : p < n := by rw [← hp]; exact Nat.mod_lt _ hn1
          obtain ⟨ba, off, x, rfl, hba, hcx, hx0, hx1⟩ := at8 HR.out p hpn HX.out
          have hcx' : wr.cell? ⟨ba, off + p, none⟩ = some (.int .u8 x) := by
            rw [World.cell?_of_block (a := ⟨ba, off + p, none⟩) (hgr.block ba (Nat.lt_of_lt_of_le hba hbw2.size) (fun e => by injection e with e; omega)), hbw2.cell (p := ⟨ba, off + p, none⟩) hba]
            exact hcx
          have hne : ((n : Int) == 0) = false := by simp; omega
          have hpe : (k : Int) % (n : Int) = (p : Int) := by rw [← hp]; rfl
          have hpe2 : (k : Int).tmod (n : Int) = (p : Int) := by rw [Int.tmod_eq_emod_of_nonneg (by omega)]; exact hpe
          clear hp hcx
          go_wp2_with fail
          go_meet
          case rel => exact ⟨x, rfl, rfl⟩
      case rest =>
        obtain ⟨x, rfl, rfl⟩ := hcut
        go_wp2_with fail
        refine (HWN.out _).mono ?_
        rintro e w4 ⟨rfl, rfl⟩
        go_wp2_with fail
        refine (outcome_any x _).mono ?_
        rintro e w4 ⟨o, rfl, hb4, _⟩
        have HS4 := Lib.hid (HSk.out.below hb4)
        have HB4 := Lib.hid (HBk.out.below hb4)
        have hgr4 := one_below hgr hb4
        clear hb4 HSk HBk hgr hgw2
        have HN := Lib.hid (bud_next HI.out hl (by omega) HC.out hc2 o)
        have HFD := Lib.hid (feed_any S g o _ HS4.out HI.out.1 (by rw [HI.out.2.1]; exact hl) (by rw [HI.out.2.2.2.1]; omega))
        obtain ⟨T, hT⟩ : ∃ T, feedS S (oYes o) (oNo o) = T := ⟨_, rfl⟩
        rw [hT] at HN HFD
        have HTF2 := Lib.hid (And.intro (HN.out.2.2.1.trans HTF.out.1) (HN.out.2.2.2.trans HTF.out.2))
        clear hT
        go_wp2_with fail
        refine HFD.out.mono ?_
        rintro e w5 ⟨rfl, hS5, hg5⟩
        have HS5 := Lib.hid hS5
        have HB5 := Lib.hid (HB4.out.grown hg5 (by omega))
        have hgr5 := one_trans hgr4 hg5
        have hgw5 : w2.heap.size ≤ w5.heap.size := hgr5.size
        obtain ⟨q5, z5, l5⟩ := HB5.out
        clear hS5 hg5 HS4 HB4 hgr4 HFD
        have HS6 := Lib.hid (HS5.out.below ((Below.refl w5.heap.size w5).alloc (Nat.le_refl _) (.cells (rqC a1 a2 a3) 31)))
        by_cases hend : T.ks.length = N
        · have HNX := Lib.hid (next_end T g _ HS6.out HN.out.1.1.1 (by rw [HN.out.1.2.1]; exact hend))
          go_wp2_with fail
          refine HNX.out.mono ?_
          rintro e w6 ⟨rfl, hb6⟩
          have HS7 := Lib.hid (HS6.out.below hb6)
          have hgr7 := one_below (one_alloc hgr5 _) hb6
          have HB7 := Lib.hid ((Box.alloc_ (w := w5) (cs := rqC a1 a2 a3) (e := 31)).below hb6)
          clear hb6 q5 z5 l5
          go_wp2_with fail
          go_roundw
          case rel => exact ⟨k + 1, T, _, a1, a2, a3, false, by go_num, rfl, rfl, by simp; omega, HN.out.1, HTF2.out, HS7.out, HB7.out, hgw5, hgr7⟩
          case measure => have := HWW.out; simp [intOf]; omega
        · have hlt : T.ks.length < N := by have := HN.out.1.1.1.1; have := HN.out.1.2.1; omega
          obtain ⟨l1, hl1⟩ : ∃ l : Nat, T.ks.length = l := ⟨_, rfl⟩
          obtain ⟨z1, hz1⟩ : ∃ z : Nat, sizeN T = z := ⟨_, rfl⟩
          have HNX := Lib.hid (next_any T g _ HS6.out HN.out.1.1.1 (by rw [HN.out.1.2.1]; exact hlt) (by rw [HTF2.out.2]; exact ⟨b31, hf1⟩) l1 hl1 z1 hz1)
          rw [HTF2.out.1, HTF2.out.2] at HNX
          clear hl1 hz1 hend
          go_wp2_with fail
          refine HNX.out.mono ?_
          rintro e w6 ⟨rfl, hb6⟩
          have HS7 := Lib.hid (HS6.out.below hb6)
          have hgr7 := one_below (one_alloc hgr5 _) hb6
          have HB7 := Lib.hid ((Box.alloc_ (w := w5) (cs := rqC a1 a2 a3) (e := 31)).below hb6)
          clear hb6 q5 z5 l5
          unfold reqV
          go_wp2_with fail
          go_roundw
          case rel => exact ⟨k + 1, T, _, a1, a2, a3, true, by go_num, rfl, rfl, by simp; omega, HN.out.1, HTF2.out, HS7.out, HB7.out, hgw5, hgr7⟩
          case measure => have := HWW.out; simp [intOf]; omega
end Go.Proofs.Ytdkkfahnkenplaa

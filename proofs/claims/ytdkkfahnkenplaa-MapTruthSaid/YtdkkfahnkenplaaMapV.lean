/- Layer 25: the law MapOpen. -/
import Derived.Test.YtdkkfahnkenplaaMapW
import Derived.Test.YtdkkfahnkenplaaMapQ
import Derived.Test.YtdkkfahnkenplaaMapO
import Derived.Test.YtdkkfahnkenplaaBytesS
import Derived.Test.YtdkkfahnkenplaaOpen
import Derived.Deep.DeepCutAuto
set_option linter.unusedVariables false
set_option linter.unusedSimpArgs false
namespace Go.Proofs.Ytdkkfahnkenplaa
open Go.RowKit

/-! ### a struct of nine cells, or of five, that is stored -/
theorem box_put9 {w : World} {b : Nat} {c0 c1 c2 c3 c4 c5 c6 c7 c8 : Value} (h : Box w b #[c0, c1, c2, c3, c4, c5, c6, c7, c8]) (v0 v1 v2 v3 v4 v5 v6 v7 v8 : Value) :
    Box (((((((((w.setCell ⟨b, 0, none⟩ v0).setCell ⟨b, 1, none⟩ v1).setCell ⟨b, 2, none⟩ v2).setCell ⟨b, 3, none⟩ v3).setCell ⟨b, 4, none⟩ v4).setCell ⟨b, 5, none⟩ v5).setCell ⟨b, 6, none⟩ v6).setCell ⟨b, 7, none⟩ v7).setCell ⟨b, 8, none⟩ v8) b #[v0, v1, v2, v3, v4, v5, v6, v7, v8] :=
  ((((((((h.set (k := 0) (v := v0) (cs' := #[v0, c1, c2, c3, c4, c5, c6, c7, c8]) (by simp) rfl).set (k := 1) (v := v1) (cs' := #[v0, v1, c2, c3, c4, c5, c6, c7, c8]) (by simp) rfl).set (k := 2) (v := v2) (cs' := #[v0, v1, v2, c3, c4, c5, c6, c7, c8]) (by simp) rfl).set (k := 3) (v := v3) (cs' := #[v0, v1, v2, v3, c4, c5, c6, c7, c8]) (by simp) rfl).set (k := 4) (v := v4) (cs' := #[v0, v1, v2, v3, v4, c5, c6, c7, c8]) (by simp) rfl).set (k := 5) (v := v5) (cs' := #[v0, v1, v2, v3, v4, v5, c6, c7, c8]) (by simp) rfl).set (k := 6) (v := v6) (cs' := #[v0, v1, v2, v3, v4, v5, v6, c7, c8]) (by simp) rfl).set (k := 7) (v := v7) (cs' := #[v0, v1, v2, v3, v4, v5, v6, v7, c8]) (by simp) rfl).set (k := 8) (v := v8) (cs' := #[v0, v1, v2, v3, v4, v5, v6, v7, v8]) (by simp) rfl
theorem below_put9 {w0 w : World} {B b : Nat} (h : Below B w0 w) (hb : B ≤ b) (v0 v1 v2 v3 v4 v5 v6 v7 v8 : Value) :
    Below B w0 (((((((((w.setCell ⟨b, 0, none⟩ v0).setCell ⟨b, 1, none⟩ v1).setCell ⟨b, 2, none⟩ v2).setCell ⟨b, 3, none⟩ v3).setCell ⟨b, 4, none⟩ v4).setCell ⟨b, 5, none⟩ v5).setCell ⟨b, 6, none⟩ v6).setCell ⟨b, 7, none⟩ v7).setCell ⟨b, 8, none⟩ v8) :=
  ((((((((h.setCell (p := ⟨b, 0, none⟩) hb v0).setCell (p := ⟨b, 1, none⟩) hb v1).setCell (p := ⟨b, 2, none⟩) hb v2).setCell (p := ⟨b, 3, none⟩) hb v3).setCell (p := ⟨b, 4, none⟩) hb v4).setCell (p := ⟨b, 5, none⟩) hb v5).setCell (p := ⟨b, 6, none⟩) hb v6).setCell (p := ⟨b, 7, none⟩) hb v7).setCell (p := ⟨b, 8, none⟩) hb v8
theorem box_put5 {w : World} {b : Nat} {c0 c1 c2 c3 c4 : Value} (h : Box w b #[c0, c1, c2, c3, c4]) (v0 v1 v2 v3 v4 : Value) :
    Box (((((w.setCell ⟨b, 0, none⟩ v0).setCell ⟨b, 1, none⟩ v1).setCell ⟨b, 2, none⟩ v2).setCell ⟨b, 3, none⟩ v3).setCell ⟨b, 4, none⟩ v4) b #[v0, v1, v2, v3, v4] :=
  ((((h.set (k := 0) (v := v0) (cs' := #[v0, c1, c2, c3, c4]) (by simp) rfl).set (k := 1) (v := v1) (cs' := #[v0, v1, c2, c3, c4]) (by simp) rfl).set (k := 2) (v := v2) (cs' := #[v0, v1, v2, c3, c4]) (by simp) rfl).set (k := 3) (v := v3) (cs' := #[v0, v1, v2, v3, c4]) (by simp) rfl).set (k := 4) (v := v4) (cs' := #[v0, v1, v2, v3, v4]) (by simp) rfl
theorem below_put5 {w0 w : World} {B b : Nat} (h : Below B w0 w) (hb : B ≤ b) (v0 v1 v2 v3 v4 : Value) :
    Below B w0 (((((w.setCell ⟨b, 0, none⟩ v0).setCell ⟨b, 1, none⟩ v1).setCell ⟨b, 2, none⟩ v2).setCell ⟨b, 3, none⟩ v3).setCell ⟨b, 4, none⟩ v4) :=
  ((((h.setCell (p := ⟨b, 0, none⟩) hb v0).setCell (p := ⟨b, 1, none⟩) hb v1).setCell (p := ⟨b, 2, none⟩) hb v2).setCell (p := ⟨b, 3, none⟩) hb v3).setCell (p := ⟨b, 4, none⟩) hb v4

theorem at8 {w : World} {B n : Nat} {A : Option Addr} {xs : List Int} (h : Rd w B 1 A n (by8 xs)) (k : Nat) (hk : k < n) (hx : ∀ x ∈ xs, 0 ≤ x ∧ x ≤ 255) : ∃ b off x, A = some ⟨b, off, none⟩ ∧ b < B ∧ w.cell? ⟨b, off + k, none⟩ = some (.int .u8 x) ∧ 0 ≤ x ∧ x ≤ 255 := by
  have hl : xs.length = n := by have := h.1; simpa using this
  obtain ⟨b, off, e, hb, hc⟩ := h.2 (by omega)
  have hk2 : k < xs.length := by omega
  exact ⟨b, off, xs[k], e, hb, hc k _ (by simp [List.getElem?_eq_getElem hk2]), hx _ (List.getElem_mem hk2)⟩
abbrev rqC (a b c : Int) : Array Value := #[.int .i64 a, .int .i64 b, .int .i64 c, .int .i64 0, .int .i64 0]

/-- What is known at the head of the loop of MapOpen. -/
def OpInv (xs : List Bool) (N M c k lost : Nat) (S : Mst) : Prop := MInv S ∧ S.N = N ∧ S.M = M ∧ S.q = k ∧ phi c S + k ≤ N * c ∧ SInv xs S ∧ doubts S.ks ≤ lost
/-- An outcome that is open, or true. -/
def OpOk (xs : List Bool) (l z : Nat) (o : Ocv) (lost lost' : Nat) : Prop := (oYes o = true → allT xs l z = true) ∧ (oNo o = true → allT xs l z = false) ∧ lost' = lost + (if z = 1 ∧ oYes o = false ∧ oNo o = false then 1 else 0)
theorem feed_same (S : Mst) (y n : Bool) : (feedS S y n).tb = S.tb ∧ (feedS S y n).fs = S.fs := by
  constructor
  all_goals
    unfold feedS halveS
    repeat' split
    all_goals rfl
theorem op_next {xs : List Bool} {N M c k lost lost' : Nat} {S : Mst} (h : OpInv xs N M c k lost S) (hl : S.ks.length < N) (hN : N ≤ 512) (hc : lg N + 3 = c) (hc2 : c ≤ 100) (o : Ocv) (ho : OpOk xs S.ks.length (sizeN S) o lost lost') :
    OpInv xs N M c (k + 1) lost' (feedS S (oYes o) (oNo o)) := by
  obtain ⟨h1, rfl, h3, h4, h5, h6, h7⟩ := h
  obtain ⟨o1, o2, rfl⟩ := ho
  have hm : S.N * c ≤ 512 * 100 := Nat.mul_le_mul hN hc2
  obtain ⟨f1, f2, f3, f4, f5⟩ := feed_phi c S (oYes o) (oNo o) h1 hl (by omega) (yes_no o) (by omega)
  obtain ⟨g1, g2⟩ := sound_step xs S (oYes o) (oNo o) h1 hl h6 o1 o2
  exact ⟨f1, f2, by rw [f3, h3], by rw [f4, h4], by omega, g1, Nat.le_trans g2 (by omega)⟩
theorem op_lt {xs : List Bool} {N M c k lost : Nat} {S : Mst} (h : OpInv xs N M c k lost S) (hl : S.ks.length < N) (hN : N ≤ 512) (hc : lg N + 3 = c) (hc2 : c ≤ 100) : k < N * c := by
  obtain ⟨h1, rfl, h3, h4, h5, h6, h7⟩ := h
  have hm : S.N * c ≤ 512 * 100 := Nat.mul_le_mul hN hc2
  obtain ⟨f1, f2, f3, f4, f5⟩ := feed_phi c S true false h1 hl (by omega) (by simp) (by omega)
  omega
/-- Reading a kind and its truth. -/
theorem sound_at {xs : List Bool} {ks : List Int} (h : Sound xs ks) (i : Nat) (hi : i < ks.length) (hx : ks.length = xs.length) : ∃ (k : Int) (b : Bool), ks[i]? = some k ∧ xs[i]? = some b ∧ (k = 3 ∨ (k = 1 ∧ b = true) ∨ (k = 2 ∧ b = false)) := by
  have h2 : i < xs.length := by omega
  refine ⟨ks[i], xs[i], List.getElem?_eq_getElem hi, List.getElem?_eq_getElem h2, ?_⟩
  rcases h i _ (List.getElem?_eq_getElem hi) with h | ⟨b, hb, hk⟩
  · exact .inl h
  · rw [List.getElem?_eq_getElem h2] at hb
    obtain rfl : xs[i] = b := by simpa using hb
    cases hb2 : xs[i]
    · exact .inr (.inr ⟨by rw [hk, hb2]; rfl, rfl⟩)
    · exact .inr (.inl ⟨by rw [hk, hb2]; rfl, rfl⟩)
theorem doubts_snoc (ks : List Int) (i : Nat) (k : Int) (h : ks[i]? = some k) : doubts (ks.take (i + 1)) = doubts (ks.take i) + if k = 3 then 1 else 0 := by
  obtain ⟨hi, rfl⟩ := List.getElem?_eq_some_iff.1 h
  rw [List.take_succ_eq_append_getElem hi, doubts, List.count_append, doubts]
  by_cases h3 : ks[i] = 3 <;> simp [h3]

set_option maxRecDepth 100000 in
set_option maxHeartbeats 16000000 in
theorem lawOpen_any (t0 f0 m0 : Int) (set : List Bool) (Ab : Option Addr) (nb cb : Nat) (A : Option Addr) (n c0 : Nat) (ys : List Int) (w : World) (hrb : Rd w w.heap.size 1 Ab nb (set.map Value.bool)) (hnb : nb ≤ cb) (hcb : cb ≤ maxLen) (hr : Rd w w.heap.size 1 A n (by8 ys)) (hn : n ≤ maxLen) (hx : ∀ x ∈ ys, 0 ≤ x ∧ x ≤ 255) :
    Calls Try.prog 4 #[.int .i64 t0, .slice Ab nb cb, .int .i64 f0, .int .i64 m0, .slice A n c0] w fun e w' => e = .returned (.bool true) ∧ Below w.heap.size w w' := by
  obtain ⟨r1, hr1⟩ : ∃ r, t0 % 4 = r := ⟨_, rfl⟩
  have b1 : 0 ≤ r1 ∧ r1 < 4 := by omega
  obtain ⟨b11, b12⟩ := b1
  obtain ⟨m, hm⟩ : ∃ m, min nb 39 = m := ⟨_, rfl⟩
  have hm39 : m ≤ 39 := by omega
  obtain ⟨r3, hr3⟩ : ∃ r, f0 % (65536 - ((m : Int) + 1) + 1) = r := ⟨_, rfl⟩
  have b31 : 0 ≤ r3 := by rw [← hr3]; exact Int.emod_nonneg _ (by omega)
  have b32 : r3 < 65536 - ((m : Int) + 1) + 1 := by rw [← hr3]; exact Int.emod_lt_of_pos _ (by omega)
  obtain ⟨r4, hr4⟩ : ∃ r, m0 % 50 = r := ⟨_, rfl⟩
  have b4 : 0 ≤ r4 ∧ r4 < 50 := by omega
  obtain ⟨b41, b42⟩ := b4
  have hbl : set.length = nb := by have := hrb.1; simpa using this
  obtain ⟨xs, hxs⟩ : ∃ xs, winL set = xs := ⟨_, rfl⟩
  have hxl : xs.length = m + 1 := by rw [← hxs, winL_len, hbl, hm]
  have HWI := Lib.hid (window_any set Ab nb cb m f0 m0 w hrb hnb hcb hm r3 r4 hr3 hr4)
  rw [hxs] at HWI
  obtain ⟨N, hN⟩ : ∃ N, m + 1 = N := ⟨_, rfl⟩
  rw [hN] at HWI hxl
  have hNi : (m : Int) + 1 = (N : Int) := by omega
  have hN40 : N ≤ 40 := by omega
  have hN1 : 1 ≤ N := by omega
  obtain ⟨M, hM⟩ : ∃ M : Nat, 1 + r4 = M := ⟨(1 + r4).toNat, by omega⟩
  obtain ⟨c, hc⟩ : ∃ c, lg N + 3 = c := ⟨_, rfl⟩
  have hlg := lg_le N hN1 (by omega)
  have hc2 : c ≤ 100 := by omega
  obtain ⟨W, hW⟩ : ∃ W, N * c = W := ⟨_, rfl⟩
  have hWb : W ≤ 760 := by rw [← hW]; exact Nat.le_trans (Nat.mul_le_mul hN40 (show c ≤ 19 by omega)) (by omega)
  have H1 := Lib.hid (fun w => mod_eq t0 4 r1 (by omega) (by omega) hr1 w)
  have hnok : newOk (1 + r1) r3 (N : Int) (M : Int) = true := by simp only [newOk, decide_eq_true_eq]; omega
  have HNW := Lib.hid (fun (W : World) => (show Calls Try.prog 8 #[.int .i64 (1 + r1), .agg #[.int .i64 r3, .int .i64 ((m : Int) + 1)], .int .i64 (1 + r4)] W (fun e w' => ∃ g, e = .returned (mptr g) ∧ W.heap.size ≤ g ∧ MapAt w' g ⟨1 + r1, r3, N, M, 0, 0, 0, [], 0⟩ ∧ Below W.heap.size W w') from by rw [hM, hNi]; exact mnew_yes (1 + r1) r3 N M W hnok))
  have HKD := Lib.hid (fun (S : Mst) (g : Nat) (W : World) (hS : MapAt W g S) (hk : Mok S) (hl : S.ks.length = S.N) (hNN : S.N = N) => (show Calls Try.prog 23 #[mptr g, .int .i64 ((m : Int) + 1)] W (fun e w' => ∃ A c, e = .returned (.tuple #[.slice A N c, .bool true]) ∧ Rd w' w'.heap.size 1 A N (ints S.ks) ∧ Below W.heap.size W w') from by rw [hNi]; exact kinds_any S g W hS hk hl N hNN))
  have hphi0 : phi c ⟨1 + r1, r3, N, M, 0, 0, 0, [], 0⟩ ≤ N * c := by
    rw [phi]
    dsimp only
    rw [if_neg (by simp; omega), if_neg (by omega), if_neg (by omega)]
    obtain ⟨q, rfl⟩ : ∃ q, N = q + 1 := ⟨N - 1, by omega⟩
    simp only [List.length_nil, Nat.sub_zero, Nat.add_sub_cancel]
    rw [Nat.mul_comm c q, Nat.add_mul]
    omega
  have hinv0 : OpInv xs N M c 0 0 ⟨1 + r1, r3, N, M, 0, 0, 0, [], 0⟩ := ⟨⟨⟨Nat.zero_le _, by show N ≤ 512; omega, by show M ≤ 2000; omega, Nat.zero_le _, Nat.zero_le _, Nat.zero_le _⟩, by show 1 ≤ M; omega, fun h => (by cases h), Nat.zero_le _⟩, rfl, rfl, rfl, hphi0, ⟨hxl.symm, fun i k h => (by simp at h), fun h => (by cases h)⟩, Nat.zero_le _⟩
  have HI0 := Lib.hid hinv0
  have HC := Lib.hid hc
  have HWW := Lib.hid hW
  have HR := Lib.hid hr
  have HX := Lib.hid hx
  have HXL := Lib.hid hxl
  have HN := Lib.hid hN
  have HNI := Lib.hid hNi
  have hf1 : r3 ≤ 65536 := by omega
  have hnn : n ≤ 9223372036854775807 := by unfold maxLen at hn; omega
  clear hr1 hr3 hr4 hN hM hc hW hr hx hnok hphi0 hinv0 hlg hxs hxl hbl hm hrb hcb hn hNi
  go_enter Try.func4, Try.ntmps4
  go_wp2_with fail
  refine (H1.out _).mono ?_
  rintro e w1 ⟨rfl, rfl⟩
  go_wp2_with fail
  refine HWI.out.mono ?_
  rintro e w1 ⟨A1, c1, rfl, hR1, hb1⟩
  have HR1 := Lib.hid (hR1.alloc' (.cells #[.int .i64 r3, .int .i64 ((m : Int) + 1)] 23) (Nat.le_refl _))
  have HB1 := Lib.hid (Box.alloc_ (w := w1) (cs := #[.int .i64 r3, .int .i64 ((m : Int) + 1)]) (e := 23))
  have hbw1 := ext_alloc hb1 (.cells #[.int .i64 r3, .int .i64 ((m : Int) + 1)] 23)
  obtain ⟨gR, hgR⟩ : ∃ gR, w1.heap.size = gR := ⟨_, rfl⟩
  have hgRs : gR < (w1.alloc (.cells #[.int .i64 r3, .int .i64 ((m : Int) + 1)] 23)).heap.size := by simp; omega
  rw [hgR] at HR1 HB1
  obtain ⟨W1, hW1⟩ : ∃ W1, w1.alloc (.cells #[.int .i64 r3, .int .i64 ((m : Int) + 1)] 23) = W1 := ⟨_, rfl⟩
  rw [hW1] at HR1 HB1 hbw1 hgRs
  clear hR1 hb1 HWI
  go_upto_region 3 with fail
  try rw [hW1]
  try rw [hgR]
  obtain ⟨qR, zR, lR⟩ := HB1.out
  clear hW1 hgR
  go_wp2_with fail
  refine (HNW.out _).mono ?_
  rintro e w2 ⟨g, rfl, hg0, hS2, hb2⟩
  have HR2 := Lib.hid ((HR1.out.below hb2 (by omega)).more (show gR ≤ g by omega))
  have HB2 := Lib.hid (HB1.out.below hb2)
  have hbw2 := ext_trans hbw1 hb2
  have hgw : w.heap.size ≤ g := by have := hbw1.size; omega
  have hgRg : gR ≠ g := by omega
  have HS2 := Lib.hid hS2
  have hgl : g < w2.heap.size := hS2.cell.2.2.2.2.2.2.2.2.2
  obtain ⟨l0, hl0⟩ : ∃ l : Nat, ([] : List Int).length = l := ⟨_, rfl⟩
  obtain ⟨z0, hz0⟩ : ∃ z : Nat, sizeN ⟨1 + r1, r3, N, M, 0, 0, 0, [], 0⟩ = z := ⟨_, rfl⟩
  have HNX := Lib.hid (next_any ⟨1 + r1, r3, N, M, 0, 0, 0, [], 0⟩ g w2 hS2 HI0.out.1.1 (by show 0 < N; omega) ⟨b31, hf1⟩ l0 hl0 z0 hz0)
  dsimp only at HNX
  have HLZ := Lib.hid (And.intro hl0 hz0)
  clear hb2 hbw1 hS2 HB1 hl0 hz0 hg0 HR1 qR zR lR hgRs HNW
  go_wp2_with fail
  refine HNX.out.mono ?_
  rintro e w3 ⟨rfl, hb3⟩
  have HS3 := Lib.hid (HS2.out.below hb3)
  have hg3 := one_below (one_refl w2 g) hb3
  have hbq : w2.heap.size ≤ w3.heap.size := hb3.size
  clear hb3 HS2 HNX
  unfold reqV
  go_wp2_with fail
  go_loopw [14, 15, 16, 17, 18] (fun kk ll p ok oo wr => ∃ (k lost : Nat) (S : Mst) (b : Nat) (a1 a2 a3 : Int) (y : Bool), kk = .int .i64 k ∧ ll = .int .i64 lost ∧ p = .pointer (some ⟨b, 0, none⟩) ∧ ok = .bool y ∧ decide (S.ks.length < N) = y ∧ (OpInv xs N M c k lost S ∧ (S.tb = 1 + r1 ∧ S.fs = r3) ∧ (y = true → a1 = 1 + r1 ∧ a2 = r3 + (S.ks.length : Nat) ∧ a3 = (sizeN S : Nat)) ∧ lost ≤ k) ∧ MapAt wr g S ∧ Box wr b (rqC a1 a2 a3) ∧ w2.heap.size ≤ b ∧ w2.grownBy wr (some g)) (fun kk _ _ _ _ _ => N * c - (intOf kk).toNat)
  case atStart => exact ⟨0, 0, ⟨1 + r1, r3, N, M, 0, 0, 0, [], 0⟩, _, _, _, _, true, rfl, rfl, rfl, rfl, by simp; omega, ⟨HI0.out, ⟨rfl, rfl⟩, fun _ => ⟨rfl, by rw [HLZ.out.1], by rw [HLZ.out.2]⟩, Nat.le_refl _⟩, HS3.out.below ((Below.refl _ _).alloc (Nat.le_refl _) _), Box.alloc_, hbq, one_alloc hg3 _⟩
  case round =>
    obtain ⟨k, lost, S, b, a1, a2, a3, y, rfl, rfl, rfl, rfl, hy, ⟨hI, htf, ha, hlk⟩, hSk, hBk, hbb, hgr⟩ := hrel
    have HSk := Lib.hid hSk
    have HBk := Lib.hid hBk
    have HI := Lib.hid hI
    have HTF := Lib.hid htf
    have HAa := Lib.hid ha
    have HBR := Lib.hid (HB2.out.grown hgr hgRg)
    have HRb := Lib.hid (HR2.out.grown hgl hgr)
    have hgw2 : w2.heap.size ≤ wr.heap.size := hgr.size
    clear hSk hBk hI htf ha HS3 hg3 hbq
    cases y
    · have hl : S.ks.length = S.N := by
        have h1 := HI.out.1.1.1
        have h2 := HI.out.2.1
        have h3 : ¬ S.ks.length < N := by simpa using hy
        omega
      have HL := Lib.hid hl
      have hbe : Below w.heap.size w wr := hbw2.grown hgr hbw2.size (fun i hi => by injection hi with hi; omega)
      clear hy hl HBk
      obtain ⟨qR, zR, lR⟩ := HBR.out
      go_wp2_with fail
      refine (HKD.out S g _ HSk.out HI.out.1.1 HL.out HI.out.2.1).mono ?_
      rintro e w4 ⟨A4, c4, rfl, hR4, hb4⟩
      have HR4 := Lib.hid hR4
      have HRb4 := Lib.hid (HRb.out.below hb4 (by omega))
      have hbe4 := ext_trans hbe hb4
      have hkl : S.ks.length = N := by rw [HL.out, HI.out.2.1]
      have HKL := Lib.hid hkl
      clear hb4 hR4 qR zR lR hkl
      go_wp2_with fail
      go_loopw [21, 22] (fun dd ii wq => ∃ i : Nat, i ≤ N ∧ ii = .int .i64 i ∧ dd = .int .i64 (doubts (S.ks.take i)) ∧ ∃ z, wq = w4.drewN z) (fun _ ii _ => N - (intOf ii).toNat)
      case atStart => exact ⟨0, by omega, rfl, rfl, 0, rfl⟩
      case round =>
        obtain ⟨i, hi, rfl, rfl, z, rfl⟩ := hrel
        by_cases hlt : i < N
        · obtain ⟨kk, bb, hkk, hbb2, hcase⟩ := sound_at HI.out.2.2.2.2.2.1.2.1 i (by rw [HKL.out]; exact hlt) (by rw [HKL.out, HXL.out])
          obtain ⟨bk, ok, rfl, _, hck⟩ := HR4.out.2 (by omega)
          obtain ⟨bx, ox, rfl, _, hcx⟩ := HRb4.out.2 (by omega)
          have y1 : (w4.drewN z).cell? ⟨bk, ok + i, none⟩ = some (.int .i64 kk) := hck i _ (by rw [List.getElem?_map, hkk]; rfl)
          have y2 : (w4.drewN z).cell? ⟨bx, ox + i, none⟩ = some (.bool bb) := hcx i _ (by rw [List.getElem?_map, hbb2]; rfl)
          have z1 : w4.cell? ⟨bk, ok + i, none⟩ = some (.int .i64 kk) := hck i _ (by rw [List.getElem?_map, hkk]; rfl)
          have z2 : w4.cell? ⟨bx, ox + i, none⟩ = some (.bool bb) := hcx i _ (by rw [List.getElem?_map, hbb2]; rfl)
          have hds := doubts_snoc S.ks i kk hkk
          obtain ⟨D, hD⟩ : ∃ D, doubts (S.ks.take i) = D := ⟨_, rfl⟩
          have hDi : D ≤ i := by rw [← hD, doubts]; exact Nat.le_trans List.count_le_length (List.length_take_le _ _)
          rw [hD] at hds ⊢
          have HDS := Lib.hid hds
          clear hkk hbb2 hck hcx hds hD
          rcases hcase with rfl | ⟨rfl, rfl⟩ | ⟨rfl, rfl⟩
          · go_wp2_with fail
            go_roundw
            case rel => exact ⟨i + 1, by omega, by go_num, by rw [HDS.out]; go_num, z, rfl⟩
            case measure => simp [intOf]; omega
          all_goals
            clear y1 y2
            go_upto_region 29 with fail
            go_quiet (fail)
            go_wp2_with fail
            go_roundw
            case rel => exact ⟨i + 1, by omega, by go_num, by rw [HDS.out]; simp, z + _, rfl⟩
            case measure => simp [intOf]; omega
        · obtain rfl : i = N := by omega
          have hdl : doubts (S.ks.take i) ≤ lost := by rw [List.take_of_length_le (by rw [HKL.out]; exact Nat.le_refl _)]; exact HI.out.2.2.2.2.2.2
          obtain ⟨D, hD⟩ : ∃ D, doubts (S.ks.take i) = D := ⟨_, rfl⟩
          rw [hD] at hdl ⊢
          clear hD
          have hdd : (D : Int) ≤ (lost : Int) := by omega
          have hd1 : decide (D ≤ lost) = true := by simpa using hdl
          go_wp2_with fail
          refine (awake_any _).mono ?_
          rintro e w5 ⟨rfl, hb5⟩
          go_wp2
          go_ret
          exact ⟨by first | rfl | simp [hdd], ext_trans (below_drewN hbe4 z) hb5⟩
    · have hl : S.ks.length < N := by simpa using hy
      obtain ⟨rfl, rfl, rfl⟩ := HAa.out rfl
      have hkW : k < W := by rw [← HWW.out]; exact op_lt HI.out hl (by omega) HC.out hc2
      have hk760 : k < 760 := by omega
      obtain ⟨n1, n2, n3, _⟩ := size_bd HI.out.1 (by rw [HI.out.2.1]; exact hl)
      rw [HI.out.2.1] at n2
      obtain ⟨l, hll⟩ : ∃ l, S.ks.length = l := ⟨_, rfl⟩
      obtain ⟨z, hz⟩ : ∃ z, sizeN S = z := ⟨_, rfl⟩
      obtain ⟨yv, hyv⟩ : ∃ yv, allT xs l z = yv := ⟨_, rfl⟩
      rw [hll, hz] at HBk n2
      rw [hz] at n1 n3
      obtain ⟨o, ho⟩ : ∃ o, truthO (1 + r1) yv = o := ⟨_, rfl⟩
      have hoy := truth_yes (1 + r1) yv
      rw [ho] at hoy
      have HTR := Lib.hid (fun (W : World) (B : Nat) (h : Rd W B 1 A1 N (xs.map Value.bool)) => truth_any (1 + r1) r3 l z xs A1 N c1 B W h (by omega) (by omega) ⟨b31, hf1⟩ yv hyv)
      rw [ho] at HTR
      have hok0 : OpOk xs l z o lost lost := ⟨fun h => by rw [hyv, ← hoy.1, h], fun h => by rw [hoy.2] at h; rw [hyv]; simpa using h, by have hne : ¬ (z = 1 ∧ oYes o = false ∧ oNo o = false) := (by rintro ⟨_, h1, h2⟩; rw [hoy.1] at h1; rw [hoy.2, h1] at h2; cases h2); rw [if_neg hne, Nat.add_zero]⟩
      have HOK0 := Lib.hid hok0
      have HLZ2 := Lib.hid (And.intro hll hz)
      have hbe : Below w.heap.size w wr := hbw2.grown hgr hbw2.size (fun i hi => by injection hi with hi; omega)
      have hdk : decide ((2000 : Int) < (k : Int)) = false := by simp; omega
      have hdk2 : decide (2000 < k) = false := by simp; omega
      clear hy hll hz hyv ho hoy hok0 HAa hl
      obtain ⟨ov, of, ox, odA, odn, odc, ocd, olv, omo, onx, ooA, oon, ooc⟩ := o
      obtain ⟨qR, zR, lR⟩ := HBR.out
      obtain ⟨qk, zk, lk⟩ := HBk.out
      go_wp2_with fail
      refine (HTR.out _ _ HRb.out).mono ?_
      rintro e w4 ⟨rfl, hb4⟩
      have HS4 := Lib.hid (HSk.out.below hb4)
      have HB4 := Lib.hid (HBk.out.below hb4)
      have hgr4 := one_below hgr hb4
      have hbe4 := ext_trans hbe hb4
      have hb5 : Below w4.heap.size w4 (w4.alloc (.cells #[.int .i64 ov, .int .i64 of, .int .i64 ox, .slice odA odn odc, .int .i64 ocd, .int .i64 olv, .bool omo, .int .i64 onx, .slice ooA oon ooc] 49)) := (Below.refl _ _).alloc (Nat.le_refl _) _
      have HBo := Lib.hid (Box.alloc_ (w := w4) (cs := #[.int .i64 ov, .int .i64 of, .int .i64 ox, .slice odA odn odc, .int .i64 ocd, .int .i64 olv, .bool omo, .int .i64 onx, .slice ooA oon ooc]) (e := 49))
      clear hb4 HTR HSk HBk hgr hbe qR zR lR qk zk lk
      go_upto_region 11 with fail
      obtain ⟨go, hgo⟩ : ∃ go, w4.heap.size = go := ⟨_, rfl⟩
      have hgo4 : go ≤ w4.heap.size := by omega
      have hgob : w2.heap.size ≤ go := by have := hgr4.size; omega
      obtain ⟨W5, hW5⟩ : ∃ W5, w4.alloc (.cells #[.int .i64 ov, .int .i64 of, .int .i64 ox, .slice odA odn odc, .int .i64 ocd, .int .i64 olv, .bool omo, .int .i64 onx, .slice ooA oon ooc] 49) = W5 := ⟨_, rfl⟩
      rw [hW5] at HBo hb5 ⊢
      rw [hgo] at HBo hb5 ⊢
      have hb5' : Below w4.heap.size w4 W5 := by rw [hgo]; exact hb5
      have HS5 := Lib.hid (HS4.out.below hb5')
      have HB5 := Lib.hid (HB4.out.below hb5')
      have hbe5 := ext_trans hbe4 hb5'
      have HGO := Lib.hid hgo
      clear hW5 hgo
      have hcb : (∃ x ba off, A = some ⟨ba, off, none⟩ ∧ k < n ∧ W5.cell? ⟨ba, off + k, none⟩ = some (.int .u8 x) ∧ (0 ≤ x ∧ x ≤ 255) ∧ x % 3 = 0) ∨ (∃ x ba off, A = some ⟨ba, off, none⟩ ∧ k < n ∧ W5.cell? ⟨ba, off + k, none⟩ = some (.int .u8 x) ∧ (0 ≤ x ∧ x ≤ 255) ∧ ¬ x % 3 = 0) ∨ ¬ k < n := by
        by_cases hkn : k < n
        · obtain ⟨ba, off, x, e, _, hc, hx0, hx1⟩ := at8 (HR.out.below hbe5 (Nat.le_refl _)) k hkn HX.out
          by_cases h3 : x % 3 = 0
          · exact .inl ⟨x, ba, off, e, hkn, hc, ⟨hx0, hx1⟩, h3⟩
          · exact .inr (.inl ⟨x, ba, off, e, hkn, hc, ⟨hx0, hx1⟩, h3⟩)
        · exact .inr (.inr hkn)
      have hcc : ∃ bb : Bool, (bb = true ∧ ∃ x ba off, A = some ⟨ba, off, none⟩ ∧ k < n ∧ W5.cell? ⟨ba, off + k, none⟩ = some (.int .u8 x) ∧ (0 ≤ x ∧ x ≤ 255) ∧ x % 3 = 0) ∨ (bb = false ∧ ((∃ x ba off, A = some ⟨ba, off, none⟩ ∧ k < n ∧ W5.cell? ⟨ba, off + k, none⟩ = some (.int .u8 x) ∧ (0 ≤ x ∧ x ≤ 255) ∧ ¬ x % 3 = 0) ∨ ¬ k < n)) := by
        rcases hcb with h | h
        · exact ⟨true, .inl ⟨rfl, h⟩⟩
        · exact ⟨false, .inr ⟨rfl, h⟩⟩
      clear hcb
      obtain ⟨bb, hcc⟩ := hcc
      have HCC := Lib.hid hcc
      clear hcc
      go_cut [67] (fun v x => v = .bool bb ∧ x = W5)
      case first =>
        rcases HCC.out with ⟨rfl, x, ba, off, rfl, hkn, y0, ⟨hx0, hx1⟩, h3⟩ | ⟨rfl, ⟨x, ba, off, rfl, hkn, y0, ⟨hx0, hx1⟩, h3⟩ | hkn⟩
        · have d1 : (x % 3 == 0) = true := by simpa using h3
          have d0 : decide (k < n) = true := by simpa using hkn
          clear h3 HCC
          go_wp2_with fail
          go_meet
          case rel => exact ⟨rfl, rfl⟩
        · have d1 : (x % 3 == 0) = false := by simpa using h3
          have d0 : decide (k < n) = true := by simpa using hkn
          clear h3 HCC
          go_wp2_with fail
          go_meet
          case rel => exact ⟨rfl, rfl⟩
        · have d0 : decide (k < n) = false := by simpa using hkn
          clear HCC
          go_wp2_with fail
          go_meet
          case rel => exact ⟨rfl, rfl⟩
      case rest =>
        obtain ⟨rfl, hwc⟩ := hcut
        obtain rfl : W5 = wc := hwc.symm
        go_upto_if 67 with (fail)
        go_cut [15] (fun lv x => ∃ (o2 : Ocv) (lost2 : Nat), lv = .int .i64 lost2 ∧ Below go w4 x ∧ Box x go (ocCells o2) ∧ OpOk xs l z o2 lost lost2)
        case first =>
          rcases HCC.out with ⟨rfl, x, ba, off, rfl, hkn, y0, ⟨hx0, hx1⟩, h3⟩ | ⟨rfl, _⟩
          · clear HCC h3
            have d0 : decide (k < n) = true := by simpa using hkn
            go_wp2_with fail
            refine (outcome_any _ _).mono ?_
            rintro e w6 ⟨⟨pv, pf, px, pdA, pdn, pdc, pcd, plv, pmo, pnx, poA, pon, poc⟩, rfl, hb6, hop⟩
            have hop2 := hop (by omega)
            have HOP := Lib.hid hop2
            have HBo6 := HBo.out.below hb6
            have HB6 := Lib.hid (HB5.out.below hb6)
            have hb46 : Below go w4 w6 := hb5.trans (hb6.mono (by have := hb5.size; omega))
            have hBf := box_put9 HBo6 (.int .i64 pv) (.int .i64 pf) (.int .i64 px) (.slice pdA pdn pdc) (.int .i64 pcd) (.int .i64 plv) (.bool pmo) (.int .i64 pnx) (.slice poA pon poc)
            have hbf := below_put9 hb46 (Nat.le_refl go) (.int .i64 pv) (.int .i64 pf) (.int .i64 px) (.slice pdA pdn pdc) (.int .i64 pcd) (.int .i64 plv) (.bool pmo) (.int .i64 pnx) (.slice poA pon poc)
            have HBq := HB4.out.below (show Below w4.heap.size w4 _ by rw [HGO.out]; exact hbf)
            obtain ⟨q6, z6, l6⟩ := HBo6
            have HBF := Lib.hid hBf
            have HBQ := Lib.hid HBq
            clear hBf HBq hop hop2 hb6 HB6
            go_upto_region 13 with fail
            obtain ⟨W7, hW7⟩ : ∃ W7, (((((((((w6.setCell ⟨go, 0, none⟩ (.int .i64 pv)).setCell ⟨go, 1, none⟩ (.int .i64 pf)).setCell ⟨go, 2, none⟩ (.int .i64 px)).setCell ⟨go, 3, none⟩ (.slice pdA pdn pdc)).setCell ⟨go, 4, none⟩ (.int .i64 pcd)).setCell ⟨go, 5, none⟩ (.int .i64 plv)).setCell ⟨go, 6, none⟩ (.bool pmo)).setCell ⟨go, 7, none⟩ (.int .i64 pnx)).setCell ⟨go, 8, none⟩ (.slice poA pon poc)) = W7 := ⟨_, rfl⟩
            rw [hW7] at HBF HBQ hbf ⊢
            clear hW7 q6 z6 l6
            obtain ⟨q7, z7, l7⟩ := HBQ.out
            by_cases hz1 : z = 1
            · have dz : ((z : Int) == 1) = true := by simp; omega
              have hok2 : OpOk xs l z ⟨pv, pf, px, pdA, pdn, pdc, pcd, plv, pmo, pnx, poA, pon, poc⟩ lost (lost + 1) := ⟨(fun h => by rw [HOP.out.1] at h; cases h), (fun h => by rw [HOP.out.2] at h; cases h), by rw [if_pos ⟨hz1, HOP.out⟩]⟩
              have HOK2 := Lib.hid hok2
              clear hz1 hok2
              go_wp2_with fail
              go_meet
              case rel => exact ⟨_, lost + 1, by go_num, hbf, HBF.out, HOK2.out⟩
            · have dz : ((z : Int) == 1) = false := by simp; omega
              have hok2 : OpOk xs l z ⟨pv, pf, px, pdA, pdn, pdc, pcd, plv, pmo, pnx, poA, pon, poc⟩ lost lost := ⟨(fun h => by rw [HOP.out.1] at h; cases h), (fun h => by rw [HOP.out.2] at h; cases h), by rw [if_neg (fun h => hz1 h.1), Nat.add_zero]⟩
              have HOK2 := Lib.hid hok2
              clear hz1 hok2
              go_wp2_with fail
              go_meet
              case rel => exact ⟨_, lost, rfl, hbf, HBF.out, HOK2.out⟩
          · clear HCC
            go_wp2_with fail
            go_meet
            case rel => exact ⟨_, lost, rfl, hb5, HBo.out, HOK0.out⟩
        case rest =>
          obtain ⟨o2, lost2, rfl, hb7, hBo7, hok2⟩ := hcut
          obtain ⟨pv, pf, px, pdA, pdn, pdc, pcd, plv, pmo, pnx, poA, pon, poc⟩ := o2
          have hb7' : Below w4.heap.size w4 wc := by rw [HGO.out]; exact hb7
          have HS7 := Lib.hid (HS4.out.below hb7')
          have HB7 := Lib.hid (HB4.out.below hb7')
          have hgr7 := one_below hgr4 hb7'
          have HOK2 := Lib.hid hok2
          have hlt2 : lost2 ≤ lost + 1 := by rw [hok2.2.2]; split <;> omega
          have HFD := Lib.hid (feed_any S g ⟨pv, pf, px, pdA, pdn, pdc, pcd, plv, pmo, pnx, poA, pon, poc⟩ _ HS7.out HI.out.1 (by rw [HI.out.2.1, HLZ2.out.1]; omega) (by rw [HI.out.2.2.2.1]; omega))
          have hnx := op_next HI.out (by rw [HLZ2.out.1]; omega) (by omega) HC.out hc2 ⟨pv, pf, px, pdA, pdn, pdc, pcd, plv, pmo, pnx, poA, pon, poc⟩ (by rw [HLZ2.out.1, HLZ2.out.2]; exact HOK2.out)
          have hsm := feed_same S (oYes ⟨pv, pf, px, pdA, pdn, pdc, pcd, plv, pmo, pnx, poA, pon, poc⟩) (oNo ⟨pv, pf, px, pdA, pdn, pdc, pcd, plv, pmo, pnx, poA, pon, poc⟩)
          obtain ⟨T, hT⟩ : ∃ T, feedS S (oYes ⟨pv, pf, px, pdA, pdn, pdc, pcd, plv, pmo, pnx, poA, pon, poc⟩) (oNo ⟨pv, pf, px, pdA, pdn, pdc, pcd, plv, pmo, pnx, poA, pon, poc⟩) = T := ⟨_, rfl⟩
          rw [hT] at HFD hnx hsm
          have HN := Lib.hid hnx
          have HTF2 := Lib.hid (And.intro (hsm.1.trans HTF.out.1) (hsm.2.trans HTF.out.2))
          obtain ⟨qo, zo, lo⟩ := hBo7
          clear hT hnx hsm hok2 HS4 HB4 hgr4 HBo HCC HOK0 HS5 HB5 hb5 hb5' hb7 hb7'
          go_wp2_with fail
          refine HFD.out.mono ?_
          rintro e w8 ⟨rfl, hS8, hg8⟩
          have HS8 := Lib.hid hS8
          have HB8 := Lib.hid (HB7.out.grown hg8 (by omega))
          have hgr8 := one_trans hgr7 hg8
          have hgw8 : w2.heap.size ≤ w8.heap.size := hgr8.size
          obtain ⟨q8, z8, l8⟩ := HB8.out
          clear hS8 hg8 HS7 HB7 hgr7 HFD qo zo lo
          have hb88 : Below w8.heap.size w8 (w8.alloc (.cells (rqC (1 + r1) (r3 + (l : Int)) z) 31)) := (Below.refl w8.heap.size w8).alloc (Nat.le_refl _) _
          have HS9 := Lib.hid (HS8.out.below hb88)
          have HB9 := Lib.hid (Box.alloc_ (w := w8) (cs := rqC (1 + r1) (r3 + (l : Int)) z) (e := 31))
          by_cases hend : T.ks.length = N
          · have HNX := Lib.hid (next_end T g _ HS9.out HN.out.1.1 (by rw [HN.out.2.1]; exact hend))
            go_wp2_with fail
            refine HNX.out.mono ?_
            rintro e w9 ⟨rfl, hb9⟩
            have HB10 := Lib.hid (HB9.out.below hb9)
            have hb10 := hb88.trans (hb9.mono hb88.size)
            obtain ⟨q9, z9, l9⟩ := HB10.out
            have HBf := Lib.hid (box_put5 HB10.out (.int .i64 0) (.int .i64 0) (.int .i64 0) (.int .i64 0) (.int .i64 0))
            have hbf := below_put5 hb10 (Nat.le_refl _) (.int .i64 0) (.int .i64 0) (.int .i64 0) (.int .i64 0) (.int .i64 0)
            have HSf := Lib.hid (HS8.out.below hbf)
            have hgrf := one_below hgr8 hbf
            clear hb9 hb10 q8 z8 l8 hbf
            unfold reqV
            go_wp2_with fail
            go_roundw
            case rel => exact ⟨k + 1, lost2, T, _, 0, 0, 0, false, by go_num, rfl, rfl, rfl, by simp; omega, ⟨HN.out, HTF2.out, fun h => (by cases h), by omega⟩, HSf.out, HBf.out, hgw8, hgrf⟩
            case measure => have := HWW.out; simp [intOf]; omega
          · have hlt : T.ks.length < N := by have := HN.out.1.1.1; have := HN.out.2.1; omega
            obtain ⟨l1, hl1⟩ : ∃ l : Nat, T.ks.length = l := ⟨_, rfl⟩
            obtain ⟨z1, hz1⟩ : ∃ z : Nat, sizeN T = z := ⟨_, rfl⟩
            have HNX := Lib.hid (next_any T g _ HS9.out HN.out.1.1 (by rw [HN.out.2.1]; exact hlt) (by rw [HTF2.out.2]; exact ⟨b31, hf1⟩) l1 hl1 z1 hz1)
            rw [HTF2.out.1, HTF2.out.2] at HNX
            have HL1 := Lib.hid (And.intro hl1 hz1)
            clear hl1 hz1 hend
            go_wp2_with fail
            refine HNX.out.mono ?_
            rintro e w9 ⟨rfl, hb9⟩
            have HB10 := Lib.hid (HB9.out.below hb9)
            have hb10 := hb88.trans (hb9.mono hb88.size)
            obtain ⟨q9, z9, l9⟩ := HB10.out
            have HBf := Lib.hid (box_put5 HB10.out (.int .i64 (1 + r1)) (.int .i64 (r3 + (l1 : Int))) (.int .i64 z1) (.int .i64 0) (.int .i64 0))
            have hbf := below_put5 hb10 (Nat.le_refl _) (.int .i64 (1 + r1)) (.int .i64 (r3 + (l1 : Int))) (.int .i64 z1) (.int .i64 0) (.int .i64 0)
            have HSf := Lib.hid (HS8.out.below hbf)
            have hgrf := one_below hgr8 hbf
            clear hb9 hb10 q8 z8 l8 hbf
            unfold reqV
            go_wp2_with fail
            go_roundw
            case rel => exact ⟨k + 1, lost2, T, _, 1 + r1, r3 + (l1 : Int), z1, true, by go_num, rfl, rfl, rfl, by simp; omega, ⟨HN.out, HTF2.out, fun _ => ⟨rfl, by rw [HL1.out.1], by rw [HL1.out.2]⟩, by omega⟩, HSf.out, HBf.out, hgw8, hgrf⟩
            case measure => have := HWW.out; simp [intOf]; omega
theorem openI (t0 f0 m0 : Int) (set : List Bool) (Ab : Option Addr) (cb : Nat) (A : Option Addr) (n c0 : Nat) (ys : List Int) (w : World) (hrb : Rd w w.heap.size 1 Ab set.length ((set.map fun x => [Value.bool x]).flatten)) (hnb : set.length ≤ cb) (hcb : cb ≤ maxLen) (hr : Rd w w.heap.size 1 A n (by8 ys)) (hn : n ≤ maxLen) (hx : ∀ x ∈ ys, 0 ≤ x ∧ x ≤ 255) :
    Calls Try.prog 4 #[.int .i64 t0, .slice Ab set.length cb, .int .i64 f0, .int .i64 m0, .slice A n c0] w fun e w' => e = .returned (.bool true) ∧ Below w.heap.size w w' :=
  lawOpen_any t0 f0 m0 set Ab set.length cb A n c0 ys w (by rwa [flatten_one] at hrb) hnb hcb hr hn hx
end Go.Proofs.Ytdkkfahnkenplaa

/- Layer 25: both Feeds behind the end; the reference's Spans. -/
import Derived.Test.YtdkkfahnkenplaaNpC
import Derived.Test.YtdkkfahnkenplaaNpA
set_option linter.unusedVariables false
set_option linter.unusedSimpArgs false
namespace Go.Proofs.Ytdkkfahnkenplaa
open Go.RowKit

set_option maxRecDepth 100000 in
set_option maxHeartbeats 2000000 in
theorem rfeed_end (S : Mst) (h : Nat) (row : Option Nat) (o : Ocv) (w : World) (hS : RfAt w h row S) (hk : Mok S) (hl : S.ks.length = S.N) :
    Calls Try.prog 19 #[mptr h, ocV o] w fun e w' => e = .returned (.int .i64 12) ∧ Below w.heap.size w w' := by
  have HNX := Lib.hid (fun (W : World) (k : RfAt W h row S) => show Calls Try.prog 12 #[mptr h] W fun e w' => e = .returned (.tuple #[.agg #[.int .i64 0, .int .i64 0, .int .i64 0, .int .i64 0, .int .i64 0], .bool false]) ∧ Below W.heap.size W w' from rnext_end S h row W k hk hl)
  obtain ⟨v, f, ex, dA, dn, dc, cd, lv, mo, nx, oA, on, oc⟩ := o
  have hb0 : Below w.heap.size w (w.alloc (.cells #[.int .i64 v, .int .i64 f, .int .i64 ex, .slice dA dn dc, .int .i64 cd, .int .i64 lv, .bool mo, .int .i64 nx, .slice oA on oc] 49)) := (Below.refl _ _).alloc (Nat.le_refl _) _
  have HA0 := Lib.hid (hS.below hb0)
  clear hS hk hl
  go_enter Try.func19, Try.ntmps19
  go_wp2_with fail
  refine (HNX.out _ HA0.out).mono ?_
  rintro e w1 ⟨rfl, hb1⟩
  go_wp2_with fail
  go_ret
  exact ⟨rfl, ext_alloc (ext_trans hb0 hb1) _⟩
set_option maxRecDepth 100000 in
set_option maxHeartbeats 2000000 in
theorem mfeed_end {F : Nat → Prop} (S : Mst) (g : Nat) (o : Ocv) (w : World) (hS : MapAt F w g S) (hk : Mok S) (hl : S.ks.length = S.N) :
    Calls Try.prog 17 #[mptr g, ocV o] w fun e w' => e = .returned (.int .i64 12) ∧ Below w.heap.size w w' := by
  have HE := Lib.hid (fun (W : World) (k : MapAt F W g S) => ended_any S g W k hk true (by simpa using hl))
  obtain ⟨v, f, ex, dA, dn, dc, cd, lv, mo, nx, oA, on, oc⟩ := o
  have hb0 : Below w.heap.size w (w.alloc (.cells #[.int .i64 v, .int .i64 f, .int .i64 ex, .slice dA dn dc, .int .i64 cd, .int .i64 lv, .bool mo, .int .i64 nx, .slice oA on oc] 49)) := (Below.refl _ _).alloc (Nat.le_refl _) _
  have HS0 := Lib.hid (hS.below hb0)
  clear hS hk hl
  go_enter Try.func17, Try.ntmps17
  go_wp2_with fail
  refine (HE.out _ HS0.out).mono ?_
  rintro e w1 ⟨rfl, hb1⟩
  go_wp2_with fail
  go_ret
  exact ⟨rfl, ext_trans hb0 hb1⟩

/-! ### the reference's Spans -/
theorem ofL_snoc (l : List Int) (v : Int) : ofL (l ++ [v]) = snocL (ofL l) v := by simp [ofL, List.foldl_append]
theorem snocL_last (rs : List (Rn Int)) (v : Int) : ∃ c, (snocL rs v).getLast? = some (c, v) := by
  rw [snocL, pushL, if_neg (by simp)]
  rcases h : rs.getLast? with _ | ⟨c, y⟩
  · exact ⟨1, rfl⟩
  · dsimp only
    by_cases hy : y = v
    · rw [if_pos hy]; exact ⟨c + 1, by simp [hy]⟩
    · rw [if_neg hy]; exact ⟨1, by simp⟩
/-- One step of Spans: the value that comes next. -/
theorem ofL_take (ks : List Int) (k : Nat) (hk : k < ks.length) : ofL (ks.take (k + 1)) = snocL (ofL (ks.take k)) ks[k] := by
  rw [List.take_succ_eq_append_getElem hk, ofL_snoc]
theorem ofL_last (ks : List Int) (k : Nat) (hk : k < ks.length) (h0 : 0 < k) : ∃ c, (ofL (ks.take k)).getLast? = some (c, ks[k - 1]) := by
  obtain ⟨j, rfl⟩ : ∃ j, k = j + 1 := ⟨k - 1, by omega⟩
  rw [ofL_take ks j (by omega)]
  exact snocL_last _ _
theorem snocL_eq (rs : List (Rn Int)) (c : Nat) (v : Int) (h : rs.getLast? = some (c, v)) : ∃ a, rs = a ++ [(c, v)] ∧ snocL rs v = a ++ [(c + 1, v)] := by
  refine ⟨rs.dropLast, last_split h, ?_⟩
  rw [snocL, pushL, if_neg (by simp), h]
  simp
theorem snocL_ne (rs : List (Rn Int)) (c : Nat) (y v : Int) (h : rs.getLast? = some (c, y)) (hy : y ≠ v) : snocL rs v = rs ++ [(1, v)] := by
  rw [snocL, pushL, if_neg (by simp), h]
  simp [hy]
theorem rints_at {w : World} {B n : Nat} {A : Option Addr} {ks : List Int} (h : Rd w B 1 A n (rints ks)) (k : Nat) (hk : k < n) : ∃ b off, A = some ⟨b, off, none⟩ ∧ b < B ∧ ∃ (hk : k < ks.length), w.cell? ⟨b, off + k, none⟩ = some (.int .i64 ks[k]) := by
  have hl : ks.length = n := by have := h.1; simpa using this
  obtain ⟨b, off, e, hb, hc⟩ := h.2 (by omega)
  exact ⟨b, off, e, hb, by omega, hc k _ (by simp [List.getElem?_eq_getElem (show k < ks.length by omega)])⟩

set_option maxRecDepth 100000 in
set_option maxHeartbeats 4000000 in
theorem rspans_any (ks : List Int) (A : Option Addr) (n c B : Nat) (w : World) (hr : Rd w B 1 A n (rints ks)) (hn : n ≤ 100000) (rs0 : List (Rn Int)) (hrs : ofL ks = rs0) (m : Nat) (hm : rs0.length = m) :
    Calls Try.prog 16 #[.slice A n c] w fun e w' => ∃ A2 c2, e = .returned (.slice A2 m c2) ∧ Rd w' w'.heap.size 2 A2 m (rnCells rs0) ∧ Below w.heap.size w w' := by
  have HR := Lib.hid (hr.fits (by decide))
  have hl : ks.length = n := by have := hr.1; simpa using this
  have HL := Lib.hid hl
  have HRS := Lib.hid hrs
  have HM := Lib.hid hm
  clear hr hl hrs hm
  go_enter Try.func16, Try.ntmps16
  go_wp2_with fail
  go_loopw [3, 4] (fun v i wr => ∃ (k : Nat) (rs : List (Rn Int)), k ≤ n ∧ i = .int .i64 k ∧ ofL (ks.take k) = rs ∧ wr.ownsRow w.heap.size 71 2 v rs.length (rnCells rs) ∧ Below w.heap.size w wr) (fun _ i _ => n - (intOf i).toNat)
  case atStart => exact ⟨0, [], by omega, rfl, rfl, World.ownsRow_nil _ _ _ _, Below.refl _ _⟩
  case round =>
    obtain ⟨k, rs, hk, rfl, hrs, hown, hbr⟩ := hrel
    obtain ⟨p, hp⟩ : ∃ p, rs.length = p := ⟨_, rfl⟩
    rw [hp] at hown
    obtain ⟨A5, c5, hv5, _, hR5⟩ := own_form hown
    subst hv5
    have HO := Lib.hid hown
    have HP := Lib.hid hp
    have HK := Lib.hid hrs
    have hpb : p ≤ k := by
      have := ofL_length (ks.take k)
      rw [hrs, hp, List.length_take] at this; omega
    clear hown hp hrs hR5
    by_cases hlt : k < n
    · have hkl : k < ks.length := by rw [HL.out]; exact hlt
      obtain ⟨x, hx⟩ : ∃ x, ks[k] = x := ⟨_, rfl⟩
      have hst := ofL_take ks k hkl
      rw [HK.out, hx] at hst
      have HST := Lib.hid hst
      obtain ⟨b, off, rfl, hbl, _, z0⟩ := rints_at (HR.out.below hbr (Nat.le_refl _)) k hlt
      rw [hx] at z0
      have hsz := hbr.size
      clear hst
      have HAPP := Lib.hid (fun (hsn : snocL rs x = rs ++ [(1, x)]) (v1 : Value) (w1 : World) (h : w1.ownsRow w.heap.size 71 2 v1 (p + 1) (rnCells rs ++ [.int .i64 1, .int .i64 x])) => show w1.ownsRow w.heap.size 71 2 v1 (snocL rs x).length (rnCells (snocL rs x)) from by
        rw [hsn, rnCells_append, List.length_append, HP.out]; exact h)
      by_cases hk0 : k = 0
      · subst hk0
        have hsn : snocL rs x = rs ++ [(1, x)] := by
          have : rs = [] := by rw [← HK.out]; rfl
          subst this; rfl
        have HSN := Lib.hid hsn
        clear hsn hx
        simp only [Nat.add_zero] at z0
        go_upto_region 5 with fail
        go_quiet (fail)
        obtain ⟨W1, hW1⟩ : ∃ W1, wr.drewN nq = W1 := ⟨_, rfl⟩
        rw [hW1]
        have hb1 : Below wr.heap.size wr W1 := by rw [← hW1]; exact below_drewN (Below.refl _ _) _
        have HO1 := Lib.hid (own_below HO.out hb1 (Nat.le_refl _))
        have hbw1 := ext_trans hbr hb1
        have z1 : W1.cell? ⟨b, off, none⟩ = some (.int .i64 x) := (hb1.cell (p := ⟨b, off, none⟩) (Nat.lt_of_lt_of_le hbl hsz)).trans z0
        have hsz1 : w.heap.size ≤ W1.heap.size := hbw1.size
        clear hW1 HO z0
        go_wp2_with (at_builtin; refine wpList_appN (.tmp 35) (.tmp 41) 34 w.heap.size 71 _ 2 16 _ p (rnCells rs) (W1.heap.size + 1) (some ⟨W1.heap.size, 0, none⟩) 1 1 _ Try.underlying34 spanInfo rfl (by decide) rfl rfl rfl rfl (own_box HO1.out _) (Rd.lit rfl (Nat.lt_succ_self _)) (two_one _ _) (by omega) (by omega) (by simp; omega) ?_; intro v1 w2 hown1 hg1 hn1 hb2)
        go_roundw
        case rel => exact ⟨0 + 1, _, by omega, by go_num, HST.out, HAPP.out HSN.out _ _ hown1, (hbw1.alloc hsz1 _).trans hb2⟩
        case measure => simp [intOf]; omega
      · have hkn : k - 1 < n := by omega
        obtain ⟨b', o', hA', _, _, z2⟩ := rints_at (HR.out.below hbr (Nat.le_refl _)) (k - 1) hkn
        injection hA' with hA'
        injection hA' with e1 e2
        subst e1 e2
        obtain ⟨y, hy⟩ : ∃ y, ks[k - 1] = y := ⟨_, rfl⟩
        obtain ⟨cc, hla⟩ := ofL_last ks k hkl (by omega)
        rw [HK.out, hy] at hla
        rw [hy] at z2
        have hk00 : decide (0 < k) = true := by simp; omega
        have hk01 : decide ((0 : Int) < (k : Int)) = true := by simp; omega
        have f3 : IntKind.i64.wrap ((k : Int) - 1) = ((k - 1 : Nat) : Int) := by rw [IntWalk.i64_in _ ⟨by omega, by omega⟩]; omega
        clear hx
        by_cases hxy : y = x
        · subst hxy
          obtain ⟨a, ha, hsn⟩ := snocL_eq rs cc y hla
          have hal : a.length + 1 = p := by rw [← HP.out, ha]; simp
          obtain ⟨g, cap', hv, hgb, hgl⟩ := HO.out.form (by omega)
          injection hv with hA _ hcc
          subst hA hcc
          obtain ⟨q, hq⟩ : ∃ q, a.length = q := ⟨_, rfl⟩
          rw [hq] at hal
          subst hal
          obtain ⟨hc0, hc1⟩ := rnCells_get rs q (by rw [HP.out]; omega)
          have hrq : rs[q]'(by rw [HP.out]; omega) = (cc, y) := by subst hq; simp [ha]
          rw [hrq] at hc0
          have hcb : cc ≤ k := by
            have h1 := ofL_tot (ks.take k)
            rw [HK.out, ha, tot_append, List.length_take] at h1
            simp [tot] at h1; omega
          have d0 : wr.cell? ⟨g, q * 2, none⟩ = some (.int .i64 cc) := by rw [HO.out.cellAt _ (by omega)]; exact hc0
          have dz : ∀ i, wr.frozen? ⟨g, i, none⟩ = false := fun i => HO.out.frozenAt i
          have f5 : IntKind.i64.wrap ((q : Int) + 1 - 1) = (q : Int) := by rw [IntWalk.i64_in _ ⟨by omega, by omega⟩]; omega
          have f6 : IntKind.i64.wrap ((cc : Int) + 1) = (cc : Int) + 1 := IntWalk.i64_in _ ⟨by omega, by omega⟩
          have hset : (rnCells rs).set (q * 2) (.int .i64 ((cc + 1 : Nat) : Int)) = rnCells (a ++ [(cc + 1, y)]) := by
            rw [ha, ← hq]; exact rn_set_last a (cc, y) (cc + 1)
          have HSET := Lib.hid hset
          have HSN := Lib.hid hsn
          have HQ := Lib.hid hq
          clear hc0 hc1 hrq hla hset hsn hq ha hy
          go_upto_region 5 with fail
          go_quiet (fail)
          go_wp2_with fail
          go_roundw
          case rel =>
            refine ⟨k + 1, _, by omega, by go_num, HST.out, ?_, (below_drewN hbr _).setCell (by show w.heap.size ≤ g; exact hgb) _⟩
            have hst := (HO.out.stored (q * 2) (.int .i64 ((cc : Int) + 1))).1
            have e1 : (Value.int .i64 ((cc : Int) + 1)) = .int .i64 ((cc + 1 : Nat) : Int) := by rw [Int.natCast_add]; rfl
            rw [e1, HSET.out] at hst
            have hlen : (a ++ [(cc + 1, y)]).length = q + 1 := by simp [HQ.out]
            rw [HSN.out, hlen, e1]
            exact hst
          case measure => simp [intOf]; omega
        · have hsn := snocL_ne rs cc y x hla hxy
          have d3 : (x == y) = false := by simpa using fun h => hxy h.symm
          have HSN := Lib.hid hsn
          clear hla hsn hxy hy
          go_upto_region 5 with fail
          go_quiet (fail)
          obtain ⟨W1, hW1⟩ : ∃ W1, wr.drewN nq = W1 := ⟨_, rfl⟩
          rw [hW1]
          have hb1 : Below wr.heap.size wr W1 := by rw [← hW1]; exact below_drewN (Below.refl _ _) _
          have HO1 := Lib.hid (own_below HO.out hb1 (Nat.le_refl _))
          have hbw1 := ext_trans hbr hb1
          have z1 : W1.cell? ⟨b, off + k, none⟩ = some (.int .i64 x) := (hb1.cell (p := ⟨b, off + k, none⟩) (Nat.lt_of_lt_of_le hbl hsz)).trans z0
          have hsz1 : w.heap.size ≤ W1.heap.size := hbw1.size
          clear hW1 HO z0
          go_wp2_with (at_builtin; refine wpList_appN (.tmp 35) (.tmp 41) 34 w.heap.size 71 _ 2 16 _ p (rnCells rs) (W1.heap.size + 1) (some ⟨W1.heap.size, 0, none⟩) 1 1 _ Try.underlying34 spanInfo rfl (by decide) rfl rfl rfl rfl (own_box HO1.out _) (Rd.lit rfl (Nat.lt_succ_self _)) (two_one _ _) (by omega) (by omega) (by simp; omega) ?_; intro v1 w2 hown1 hg1 hn1 hb2)
          go_roundw
          case rel => exact ⟨k + 1, _, by omega, by go_num, HST.out, HAPP.out HSN.out _ _ hown1, (hbw1.alloc hsz1 _).trans hb2⟩
          case measure => simp [intOf]; omega
    · obtain rfl : k = n := by omega
      have hown := HO.out
      have hfin : rs = rs0 := by rw [← HRS.out, ← HK.out, List.take_of_length_le (by rw [HL.out]; exact Nat.le_refl _)]
      subst hfin
      obtain rfl : p = m := HP.out.symm.trans HM.out
      obtain ⟨A6, c6, hv6, _, hR6⟩ := own_form hown
      have HR6 := Lib.hid hR6
      have HV := Lib.hid hv6
      clear hown hR6 hv6
      go_wp2
      go_ret
      obtain h1 := HV.out
      injection h1 with h1 _ h2
      subst h1 h2
      exact ⟨_, _, rfl, HR6.out, hbr⟩
end Go.Proofs.Ytdkkfahnkenplaa

/- The receiver: a Char that ends a frame. -/
import Derived.Test.YtoliplochipoeaaTRcvC
set_option linter.unusedVariables false
set_option linter.unusedSimpArgs false
namespace Go.Proofs.Ytoliplochipoeaa
open Go.RowKit

set_option maxRecDepth 100000 in
set_option maxHeartbeats 8000000 in
theorem char_end (ch t15 t35 : Int) (xs : List Int) (flX : Int) (v : Value) (fi la fl : Int) (lt id_ at_ val xf sil : Int) (g : Nat) (w : World) (hR : RB w g v ch t15 t35 xs fi la fl true lt id_)
    (hflX : addFl false sil t15 0 0 xf = flX)
    (hch : 0 ≤ ch) (hch2 : ch ≤ 100000) (hlt : 0 ≤ lt) (h1 : 0 ≤ at_) (h2 : at_ ≤ 1152921504606846976) (h3 : lt ≤ at_) (h4 : id_ ≤ at_) (hsil : max 0 (at_ - ch - lt) = sil) (hyes : t35 ≤ sil) :
    Calls Try.prog 32 #[iptr g, .agg #[.int .i64 at_, .int .u8 val, .int .i64 xf]] w fun e w' => ∃ A n c, v = .slice A n c ∧ e = .returned (.tuple #[.agg #[.slice A n c, .int .i64 fi, .int .i64 la, .int .i64 fl], .bool true, .int .i64 0]) ∧ ∃ v', RB w' g v' ch t15 t35 [val] at_ at_ flX true at_ id_ ∧ (v'.ownBlock = none ∨ ∃ b, v'.ownBlock = some b ∧ w.heap.size ≤ b) ∧ Chg w w' g none := by
  obtain ⟨A, c, hv, _, _⟩ := own_form hR.2
  subst hv
  obtain ⟨n, hn⟩ : ∃ n, xs.length = n := ⟨_, rfl⟩
  rw [hn] at hR ⊢
  have HN := Lib.hid hn
  clear hn
  have hgl := hR.1.2.2
  have hbA : Below w.heap.size w ((w.alloc (.cells #[.int .i64 at_, .int .u8 val, .int .i64 xf] 40)).alloc (.cells #[.slice none 0 0, .int .i64 0, .int .i64 0, .int .i64 0] 46)) := ((Below.refl _ _).alloc (Nat.le_refl _) _).alloc (by simp) _
  have HR := Lib.hid (hR.below hbA)
  have HBe := Lib.hid ((Box.alloc_ (w := w) (cs := #[.int .i64 at_, .int .u8 val, .int .i64 xf]) (e := 40)).alloc' (.cells #[.slice none 0 0, .int .i64 0, .int .i64 0, .int .i64 0] 46))
  have HBf := Lib.hid (show Box ((w.alloc (.cells #[.int .i64 at_, .int .u8 val, .int .i64 xf] 40)).alloc (.cells #[.slice none 0 0, .int .i64 0, .int .i64 0, .int .i64 0] 46)) (w.heap.size + 1) #[.slice none 0 0, .int .i64 0, .int .i64 0, .int .i64 0] by have := Box.alloc_ (w := w.alloc (.cells #[.int .i64 at_, .int .u8 val, .int .i64 xf] 40)) (cs := #[.slice none 0 0, .int .i64 0, .int .i64 0, .int .i64 0]) (e := 46); simpa using this)
  have HADD := Lib.hid (fun (W : World) (h : RB W g (.slice none 0 0) ch t15 t35 [] 0 0 0 false lt id_) => add_eq ch t15 t35 [] [val] at_ flX (.slice none 0 0) 0 0 0 false lt id_ at_ val xf sil g W h (by simp) rfl rfl hflX)
  have HTAKE := Lib.hid (fun (W : World) (h : Box W g (rcvCells ch t15 t35 (.slice A n c) fi la fl true lt id_)) => take_any ch t15 t35 A n c fi la fl true lt id_ g W h)
  have HRB := Lib.hid hR
  have k1 : IntKind.i64.wrap (at_ - ch) = at_ - ch := IntWalk.i64_in _ ⟨by omega, by omega⟩
  have k2 : IntKind.i64.wrap (at_ - ch - lt) = at_ - ch - lt := IntWalk.i64_in _ ⟨by omega, by omega⟩
  have d1 : decide (at_ < 0) = false := by simp; omega
  have d2 : decide (1152921504606846976 < at_) = false := by simp; omega
  have d3 : decide (at_ < lt) = false := by simp; omega
  have d4 : decide (at_ < id_) = false := by simp; omega
  have HNO := Lib.hid hyes
  have HSIL := Lib.hid hsil
  have hbe : Below w.heap.size w (w.alloc (.cells #[.int .i64 at_, .int .u8 val, .int .i64 xf] 40)) := (Below.refl _ _).alloc (Nat.le_refl _) _
  clear hR hflX hch hch2 hlt h1 h2 h3 h4 hsil hyes
  obtain ⟨bx, hbx⟩ : ∃ b, w.heap.size = b := ⟨_, rfl⟩
  have HBX := Lib.hid hbx
  obtain ⟨W1, hW1⟩ : ∃ W, (w.alloc (.cells #[.int .i64 at_, .int .u8 val, .int .i64 xf] 40)).alloc (.cells #[.slice none 0 0, .int .i64 0, .int .i64 0, .int .i64 0] 46) = W := ⟨_, rfl⟩
  rw [hW1] at HBe HBf HR hbA
  obtain ⟨q, z, l⟩ := HR.out.1
  unfold rcvCells at q
  obtain ⟨qx, zx, lx⟩ := HBe.out
  rw [hbx] at qx zx lx HBe HBf
  obtain ⟨qf, zf, lf⟩ := HBf.out
  go_enter Try.func32, Try.ntmps32
  go_upto_region 3 with fail
  have HWB := Lib.hid (show w.heap.size ≤ bx by omega)
  clear hW1 hbx HBX
  go_upto_region 5 with fail
  go_quiet (fail)
  go_upto_region 7 with fail
  go_cut [7] (fun u x => u = .int .i64 sil ∧ Below W1.heap.size W1 x)
  case first =>
    have e5 : (if lt < at_ - ch then at_ - ch - lt else 0) = sil := by rw [← HSIL.out]; split <;> omega
    go_quiet (fail)
    go_wp2_with fail
    go_meet
    case rel => exact ⟨rfl, by first | exact below_drewN (below_drewN (Below.refl _ _) _) _ | exact below_drew (below_drewN (Below.refl _ _) _)⟩
  case rest =>
    obtain ⟨rfl, hbc⟩ := hcut
    have HR2 := Lib.hid (HR.out.below hbc)
    have HBe2 := Lib.hid (HBe.out.below hbc)
    have HBf2 := Lib.hid (HBf.out.below hbc)
    have hbD := ext_trans hbA hbc
    clear hbA hbc q z l qx zx lx qf zf lf HR HBe HBf k1 k2 d1 d2 d3 d4
    have HR3 := Lib.hid (HR2.out.below ((Below.refl _ _).alloc (Nat.le_refl _) (.cells #[.slice none 0 0, .int .i64 0, .int .i64 0, .int .i64 0] 46)))
    have HBe3 := Lib.hid (HBe2.out.alloc' (.cells #[.slice none 0 0, .int .i64 0, .int .i64 0, .int .i64 0] 46))
    have HBf3 := Lib.hid (HBf2.out.alloc' (.cells #[.slice none 0 0, .int .i64 0, .int .i64 0, .int .i64 0] 46))
    have HBg3 := Lib.hid (Box.alloc_ (w := wc) (cs := #[.slice none 0 0, .int .i64 0, .int .i64 0, .int .i64 0]) (e := 46))
    have hbE := hbD.alloc hbD.size (.cells #[.slice none 0 0, .int .i64 0, .int .i64 0, .int .i64 0] 46)
    have HBE := Lib.hid hbE
    have HBD := Lib.hid (show bx + 1 < wc.heap.size ∧ w.heap.size ≤ wc.heap.size by have := HBf2.out.2.2; have := hbD.size; exact ⟨by omega, by omega⟩)
    clear hbE hbD
    go_upto_region 9 with fail
    obtain ⟨W3, hW3⟩ : ∃ W, wc.alloc (.cells #[.slice none 0 0, .int .i64 0, .int .i64 0, .int .i64 0] 46) = W := ⟨_, rfl⟩
    obtain ⟨b8, hb8⟩ : ∃ b, wc.heap.size = b := ⟨_, rfl⟩
    have HB8 := Lib.hid (show bx + 1 < b8 ∧ w.heap.size ≤ b8 by rw [← hb8]; exact HBD.out)
    rw [hW3] at HR3 HBe3 HBf3 HBg3 HBE ⊢
    rw [hb8] at HBg3 ⊢
    clear hW3 hb8 HR2 HBe2 HBf2
    obtain ⟨q, z, l⟩ := HR3.out.1
    unfold rcvCells at q
    obtain ⟨qx, zx, lx⟩ := HBe3.out
    have d6 : decide (t35 ≤ sil) = true := by simpa using HNO.out
    go_cut [9] (fun u x => u = .bool true ∧ x = W3)
    case first =>
      go_wp2_with fail
      go_meet
      case rel => exact ⟨rfl, rfl⟩
    case rest =>
      obtain ⟨rfl, hwc⟩ := hcut
      obtain rfl : W3 = wc := hwc.symm
      go_wp2_with fail
      refine (HTAKE.out _ HR3.out.1).mono ?_
      rintro e w4 ⟨rfl, hB4, hg4⟩
      have hne : ∀ b, w.heap.size ≤ b → b ≠ g := fun b hb => by omega
      have hw1 : w.heap.size ≤ bx + 1 := by have := HWB.out; omega
      have HBg4 := Lib.hid (HBg3.out.row hg4 (by intro e; injection e with e; exact hne b8 HB8.out.2 e))
      have HBf4 := Lib.hid (HBf3.out.row hg4 (by intro e; injection e with e; exact hne _ hw1 e))
      have HBe4 := Lib.hid (HBe3.out.row hg4 (by intro e; injection e with e; exact hne _ HWB.out e))
      have hg5 := one_set (one_set (one_set (one_set (one_refl w4 b8) 0 (.slice A n c)) 1 (.int .i64 fi)) 2 (.int .i64 la)) 3 (.int .i64 fl)
      have HBg5 := Lib.hid ((((HBg4.out.set (k := 0) (v := .slice A n c) (cs' := #[.slice A n c, .int .i64 0, .int .i64 0, .int .i64 0]) (by simp) rfl).set (k := 1) (v := .int .i64 fi) (cs' := #[.slice A n c, .int .i64 fi, .int .i64 0, .int .i64 0]) (by simp) rfl).set (k := 2) (v := .int .i64 la) (cs' := #[.slice A n c, .int .i64 fi, .int .i64 la, .int .i64 0]) (by simp) rfl).set (k := 3) (v := .int .i64 fl) (cs' := #[.slice A n c, .int .i64 fi, .int .i64 la, .int .i64 fl]) (by simp) rfl)
      have HBf5 := Lib.hid (HBf4.out.row hg5 (by intro e; injection e with e; have := HB8.out.1; omega))
      have HBe5 := Lib.hid (HBe4.out.row hg5 (by intro e; injection e with e; have := HB8.out.1; omega))
      have HB5 := Lib.hid (hB4.row hg5 (by intro e; injection e with e; exact hne b8 HB8.out.2 e.symm))
      have HC5 := Lib.hid ((((Chg.refl w g none).below HBE.out).grown hg4 (.inl rfl)).grown hg5 (.inr (.inr ⟨_, rfl, HB8.out.2⟩)))
      clear q z l qx zx lx hB4 hg4 hg5
      obtain ⟨q4, z4, l4⟩ := HBg4.out
      obtain ⟨qx, zx, lx⟩ := HBe4.out
      go_upto_region 12 with fail
      obtain ⟨w5, hw5⟩ : ∃ W, (((w4.setCell ⟨b8, 0, none⟩ (.slice A n c)).setCell ⟨b8, 1, none⟩ (.int .i64 fi)).setCell ⟨b8, 2, none⟩ (.int .i64 la)).setCell ⟨b8, 3, none⟩ (.int .i64 fl) = W := ⟨_, rfl⟩
      rw [hw5] at HBg5 HBf5 HBe5 HB5 HC5 ⊢
      clear q4 z4 l4 qx zx lx hw5
      obtain ⟨qx, zx, lx⟩ := HBe5.out
      go_wp2_with fail
      refine (HADD.out _ ⟨HB5.out, rfl, .inl ⟨rfl, rfl⟩⟩).mono ?_
      rintro e w6 ⟨rfl, v', hR6, hv6, hc6⟩
      have hs5 := HC5.out.2.2.2.1
      have HBg6 := Lib.hid (HBg5.out.chg hc6 (hne b8 HB8.out.2) (by intro e; cases e))
      have HBf6 := Lib.hid (HBf5.out.chg hc6 (hne _ hw1) (by intro e; cases e))
      have hg9 := one_set (one_set (one_set (one_set (one_refl w6 (bx + 1)) 0 (.slice A n c)) 1 (.int .i64 fi)) 2 (.int .i64 la)) 3 (.int .i64 fl)
      have hW5 := HBf5.out.2.2
      have HR9 := Lib.hid (hR6.other hg9 (by intro e; injection e with e; omega) (fun b e2 e3 => by
        injection e3 with e3
        rcases hv6 with h | ⟨c, h, hc⟩
        · rw [h] at e2; cases e2
        · rw [h] at e2; injection e2 with e2; omega))
      have HC9 := Lib.hid ((HC5.out.trans hc6 (.inr (.inl rfl))).grown hg9 (.inr (.inr ⟨_, rfl, hw1⟩)))
      have HV9 := Lib.hid (show v'.ownBlock = none ∨ ∃ b, v'.ownBlock = some b ∧ w.heap.size ≤ b from hv6.imp id (fun ⟨b, h1, h2⟩ => ⟨b, h1, Nat.le_trans hs5 h2⟩))
      have HBz := Lib.hid ((((HBf6.out.set (k := 0) (v := .slice A n c) (cs' := #[.slice A n c, .int .i64 0, .int .i64 0, .int .i64 0]) (by simp) rfl).set (k := 1) (v := .int .i64 fi) (cs' := #[.slice A n c, .int .i64 fi, .int .i64 0, .int .i64 0]) (by simp) rfl).set (k := 2) (v := .int .i64 la) (cs' := #[.slice A n c, .int .i64 fi, .int .i64 la, .int .i64 0]) (by simp) rfl).set (k := 3) (v := .int .i64 fl) (cs' := #[.slice A n c, .int .i64 fi, .int .i64 la, .int .i64 fl]) (by simp) rfl)
      clear qx zx lx hv6 hR6 hc6 hg9 hne hW5 hs5
      obtain ⟨q8, z8, l8⟩ := HBg6.out
      obtain ⟨qf, zf, lf⟩ := HBf6.out
      go_wp2
      obtain ⟨qz, zz, lz⟩ := HBz.out
      refine bodyPost_ret (v := .tuple #[.agg #[.slice A n c, .int .i64 fi, .int .i64 la, .int .i64 fl], .bool true, .int .i64 0]) (by simp [results, Try.results32, go_sem, qz, zz, lz]) rfl ⟨A, n, c, rfl, rfl, v', HR9.out, HV9.out, HC9.out⟩
end Go.Proofs.Ytoliplochipoeaa

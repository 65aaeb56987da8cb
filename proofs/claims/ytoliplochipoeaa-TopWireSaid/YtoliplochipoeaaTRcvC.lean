/- The receiver: Char. -/
import Derived.Test.YtoliplochipoeaaTRcvA
set_option linter.unusedVariables false
set_option linter.unusedSimpArgs false
namespace Go.Proofs.Ytoliplochipoeaa
open Go.RowKit

theorem Box.chg {w w' : World} {b g : Nat} {cs : Array Value} {row : Option Nat} (h : Box w b cs) (hc : Chg w w' g row) (h1 : b ≠ g) (h2 : some b ≠ row) : Box w' b cs := by
  have hblk := hc.2.2.2.2 b h.2.2 h1 h2
  refine ⟨fun i => ?_, fun i => ?_, heap_some hblk h.2.2⟩
  · rw [World.cell?_of_block (a := ⟨b, i, none⟩) hblk]; exact h.1 i
  · rw [frozen_of_block (p := ⟨b, i, none⟩) hblk]; exact h.2.1 i
theorem RB.below {w w' : World} {g : Nat} {v : Value} {ch t15 t35 : Int} {xs : List Int} {fi la fl : Int} {ac : Bool} {lt id_ : Int} (h : RB w g v ch t15 t35 xs fi la fl ac lt id_) (hb : Below w.heap.size w w') : RB w' g v ch t15 t35 xs fi la fl ac lt id_ :=
  ⟨h.1.below hb, own_below h.2 hb (Nat.le_refl _)⟩
theorem RB.other {w w' : World} {g : Nat} {v : Value} {ch t15 t35 : Int} {xs : List Int} {fi la fl : Int} {ac : Bool} {lt id_ : Int} {r : Option Nat} (h : RB w g v ch t15 t35 xs fi la fl ac lt id_) (hg : w.grownBy w' r) (h1 : r ≠ some g) (h2 : ∀ b, v.ownBlock = some b → r ≠ some b) : RB w' g v ch t15 t35 xs fi la fl ac lt id_ :=
  ⟨h.1.row hg (Ne.symm h1), own_off h.2 hg h2⟩

set_option maxRecDepth 100000 in
set_option maxHeartbeats 8000000 in
theorem char_keep (ch t15 t35 : Int) (xs xs2 : List Int) (fi1 flX : Int) (v : Value) (fi la fl : Int) (ac : Bool) (lt id_ at_ val xf sil : Int) (g : Nat) (w : World) (hR : RB w g v ch t15 t35 xs fi la fl ac lt id_) (hlen : xs.length ≤ 256)
    (hxs2 : (if xs.length < 256 then xs ++ [val] else xs) = xs2) (hfi1 : (if ac then fi else at_) = fi1) (hflX : addFl ac sil t15 xs.length fl xf = flX)
    (hch : 0 ≤ ch) (hch2 : ch ≤ 100000) (hlt : 0 ≤ lt) (h1 : 0 ≤ at_) (h2 : at_ ≤ 1152921504606846976) (h3 : lt ≤ at_) (h4 : id_ ≤ at_) (hsil : max 0 (at_ - ch - lt) = sil) (hno : ac = false ∨ sil < t35) :
    Calls Try.prog 32 #[iptr g, .agg #[.int .i64 at_, .int .u8 val, .int .i64 xf]] w fun e w' => e = .returned (.tuple #[noFrame, .bool false, .int .i64 0]) ∧ ∃ v', RB w' g v' ch t15 t35 xs2 fi1 at_ flX true at_ id_ ∧ (v'.ownBlock = v.ownBlock ∨ ∃ b, v'.ownBlock = some b ∧ w.heap.size ≤ b) ∧ Chg w w' g v.ownBlock := by
  have hgl := hR.1.2.2
  have hbA : Below w.heap.size w ((w.alloc (.cells #[.int .i64 at_, .int .u8 val, .int .i64 xf] 40)).alloc (.cells #[.slice none 0 0, .int .i64 0, .int .i64 0, .int .i64 0] 46)) := ((Below.refl _ _).alloc (Nat.le_refl _) _).alloc (by simp) _
  have HR := Lib.hid (hR.below hbA)
  have HBe := Lib.hid ((Box.alloc_ (w := w) (cs := #[.int .i64 at_, .int .u8 val, .int .i64 xf]) (e := 40)).alloc' (.cells #[.slice none 0 0, .int .i64 0, .int .i64 0, .int .i64 0] 46))
  have HBf := Lib.hid (show Box ((w.alloc (.cells #[.int .i64 at_, .int .u8 val, .int .i64 xf] 40)).alloc (.cells #[.slice none 0 0, .int .i64 0, .int .i64 0, .int .i64 0] 46)) (w.heap.size + 1) #[.slice none 0 0, .int .i64 0, .int .i64 0, .int .i64 0] by have := Box.alloc_ (w := w.alloc (.cells #[.int .i64 at_, .int .u8 val, .int .i64 xf] 40)) (cs := #[.slice none 0 0, .int .i64 0, .int .i64 0, .int .i64 0]) (e := 46); simpa using this)
  have HADD := Lib.hid (fun (W : World) (h : RB W g v ch t15 t35 xs fi la fl ac lt id_) => add_eq ch t15 t35 xs xs2 fi1 flX v fi la fl ac lt id_ at_ val xf sil g W h hlen hxs2 hfi1 hflX)
  have HRB := Lib.hid hR
  have k1 : IntKind.i64.wrap (at_ - ch) = at_ - ch := IntWalk.i64_in _ ⟨by omega, by omega⟩
  have k2 : IntKind.i64.wrap (at_ - ch - lt) = at_ - ch - lt := IntWalk.i64_in _ ⟨by omega, by omega⟩
  have d1 : decide (at_ < 0) = false := by simp; omega
  have d2 : decide (1152921504606846976 < at_) = false := by simp; omega
  have d3 : decide (at_ < lt) = false := by simp; omega
  have d4 : decide (at_ < id_) = false := by simp; omega
  have HNO := Lib.hid hno
  have HSIL := Lib.hid hsil
  have hbe : Below w.heap.size w (w.alloc (.cells #[.int .i64 at_, .int .u8 val, .int .i64 xf] 40)) := (Below.refl _ _).alloc (Nat.le_refl _) _
  clear hR hlen hxs2 hfi1 hflX hch hch2 hlt h1 h2 h3 h4 hsil hno
  obtain ⟨bx, hbx⟩ : ∃ b, w.heap.size = b := ⟨_, rfl⟩
  have HBX := Lib.hid hbx
  obtain ⟨W1, hW1⟩ : ∃ W, (w.alloc (.cells #[.int .i64 at_, .int .u8 val, .int .i64 xf] 40)).alloc (.cells #[.slice none 0 0, .int .i64 0, .int .i64 0, .int .i64 0] 46) = W := ⟨_, rfl⟩
  rw [hW1] at HBe HBf HR hbA
  obtain ⟨q, z, l⟩ := HR.out.1
  unfold rcvCells at q
  obtain ⟨qx, zx, lx⟩ := HBe.out
  rw [hbx] at qx zx lx HBe HBf
  obtain ⟨qf, zf, lf⟩ := HBf.out
  go_enter Try.func32, Try.ntmps32
  go_upto_region 3 with fail
  have HWB := Lib.hid (show w.heap.size ≤ bx by omega)
  clear hW1 hbx HBX
  go_upto_region 5 with fail
  go_quiet (fail)
  go_upto_region 7 with fail
  go_cut [7] (fun u x => u = .int .i64 sil ∧ Below W1.heap.size W1 x)
  case first =>
    have e5 : (if lt < at_ - ch then at_ - ch - lt else 0) = sil := by rw [← HSIL.out]; split <;> omega
    go_quiet (fail)
    go_wp2_with fail
    go_meet
    case rel => exact ⟨rfl, by first | exact below_drewN (below_drewN (Below.refl _ _) _) _ | exact below_drew (below_drewN (Below.refl _ _) _)⟩
  case rest =>
    obtain ⟨rfl, hbc⟩ := hcut
    have HR2 := Lib.hid (HR.out.below hbc)
    have HBe2 := Lib.hid (HBe.out.below hbc)
    have HBf2 := Lib.hid (HBf.out.below hbc)
    have hbD := ext_trans hbA hbc
    clear hbA hbc q z l qx zx lx qf zf lf HR HBe HBf k1 k2 d1 d2 d3 d4
    have HR3 := Lib.hid (HR2.out.below ((Below.refl _ _).alloc (Nat.le_refl _) (.cells #[.slice none 0 0, .int .i64 0, .int .i64 0, .int .i64 0] 46)))
    have HBe3 := Lib.hid (HBe2.out.alloc' (.cells #[.slice none 0 0, .int .i64 0, .int .i64 0, .int .i64 0] 46))
    have HBf3 := Lib.hid (HBf2.out.alloc' (.cells #[.slice none 0 0, .int .i64 0, .int .i64 0, .int .i64 0] 46))
    have HBg3 := Lib.hid (Box.alloc_ (w := wc) (cs := #[.slice none 0 0, .int .i64 0, .int .i64 0, .int .i64 0]) (e := 46))
    have hbE := hbD.alloc hbD.size (.cells #[.slice none 0 0, .int .i64 0, .int .i64 0, .int .i64 0] 46)
    have HBE := Lib.hid hbE
    have HBD := Lib.hid (show bx + 1 < wc.heap.size ∧ w.heap.size ≤ wc.heap.size by have := HBf2.out.2.2; have := hbD.size; exact ⟨by omega, by omega⟩)
    clear hbE hbD
    go_upto_region 9 with fail
    obtain ⟨W3, hW3⟩ : ∃ W, wc.alloc (.cells #[.slice none 0 0, .int .i64 0, .int .i64 0, .int .i64 0] 46) = W := ⟨_, rfl⟩
    obtain ⟨b8, hb8⟩ : ∃ b, wc.heap.size = b := ⟨_, rfl⟩
    have HB8 := Lib.hid (show bx + 1 < b8 ∧ w.heap.size ≤ b8 by rw [← hb8]; exact HBD.out)
    rw [hW3] at HR3 HBe3 HBf3 HBg3 HBE ⊢
    rw [hb8] at HBg3 ⊢
    clear hW3 hb8 HR2 HBe2 HBf2
    obtain ⟨q, z, l⟩ := HR3.out.1
    unfold rcvCells at q
    obtain ⟨qx, zx, lx⟩ := HBe3.out
    have HOLD := Lib.hid (fun b (h : v.ownBlock = some b) => (HRB.out.2.lt b h).2)
    go_cut [9] (fun u x => u = .bool false ∧ x = W3)
    case first =>
      rcases HNO.out with rfl | h
      · go_wp2_with fail
        go_meet
        case rel => exact ⟨rfl, rfl⟩
      · have d6 : decide (t35 ≤ sil) = false := by simp; omega
        clear h
        cases ac
        · go_wp2_with fail
          go_meet
          case rel => exact ⟨rfl, rfl⟩
        · go_wp2_with fail
          go_meet
          case rel => exact ⟨rfl, rfl⟩
    case rest =>
      obtain ⟨rfl, hwc⟩ := hcut
      obtain rfl : W3 = wc := hwc.symm
      go_wp2_with fail
      refine (HADD.out _ HR3.out).mono ?_
      rintro e w5 ⟨rfl, v', hR5, hv5, hc5⟩
      have hne : ∀ b, w.heap.size ≤ b → b ≠ g ∧ some b ≠ v.ownBlock := fun b hb => ⟨by omega, fun e => by have := HOLD.out b e.symm; omega⟩
      have HBg5 := Lib.hid (HBg3.out.chg hc5 (hne b8 HB8.out.2).1 (hne b8 HB8.out.2).2)
      have hw1 : w.heap.size ≤ bx + 1 := by have := HWB.out; omega
      have HBf5 := Lib.hid (HBf3.out.chg hc5 (hne _ hw1).1 (hne _ hw1).2)
      have hg9 := one_set (one_set (one_set (one_set (one_refl w5 (bx + 1)) 0 (.slice none 0 0)) 1 (.int .i64 0)) 2 (.int .i64 0)) 3 (.int .i64 0)
      have hW3 := HBf3.out.2.2
      have HR9 := Lib.hid (hR5.other hg9 (by intro e; injection e with e; omega) (fun b e2 e3 => by
        injection e3 with e3
        rcases hv5 with h | ⟨c, h, hc⟩
        · exact (hne (bx + 1) hw1).2 (by rw [← h, e2, e3])
        · rw [h] at e2; injection e2 with e2; omega))
      have HC9 := Lib.hid ((((Chg.refl w g v.ownBlock).below HBE.out).trans hc5 (.inl rfl)).grown hg9 (.inr (.inr ⟨_, rfl, hw1⟩)))
      have HV9 := Lib.hid (show v'.ownBlock = v.ownBlock ∨ ∃ b, v'.ownBlock = some b ∧ w.heap.size ≤ b from hv5.imp id (fun ⟨b, h1, h2⟩ => ⟨b, h1, Nat.le_trans HBE.out.size h2⟩))
      have HBz := Lib.hid ((((HBf5.out.set (k := 0) (v := .slice none 0 0) (cs' := #[.slice none 0 0, .int .i64 0, .int .i64 0, .int .i64 0]) (by simp) rfl).set (k := 1) (v := .int .i64 0) (cs' := #[.slice none 0 0, .int .i64 0, .int .i64 0, .int .i64 0]) (by simp) rfl).set (k := 2) (v := .int .i64 0) (cs' := #[.slice none 0 0, .int .i64 0, .int .i64 0, .int .i64 0]) (by simp) rfl).set (k := 3) (v := .int .i64 0) (cs' := #[.slice none 0 0, .int .i64 0, .int .i64 0, .int .i64 0]) (by simp) rfl)
      clear q z l qx zx lx hv5 hR5 hc5 hg9 hne hW3
      obtain ⟨q8, z8, l8⟩ := HBg5.out
      obtain ⟨qf, zf, lf⟩ := HBf5.out
      go_wp2
      obtain ⟨qz, zz, lz⟩ := HBz.out
      refine bodyPost_ret (v := .tuple #[noFrame, .bool false, .int .i64 0]) (by simp [results, Try.results32, go_sem, qz, zz, lz, noFrame]) rfl ⟨rfl, v', HR9.out, HV9.out, HC9.out⟩
end Go.Proofs.Ytoliplochipoeaa

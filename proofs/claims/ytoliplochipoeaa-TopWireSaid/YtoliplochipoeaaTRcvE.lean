/- The receiver: Char refuses. -/
import Derived.Test.YtoliplochipoeaaTRcvD
set_option linter.unusedVariables false
set_option linter.unusedSimpArgs false
namespace Go.Proofs.Ytoliplochipoeaa
open Go.RowKit

theorem char_nil (at_ val xf : Int) (w : World) :
    Calls Try.prog 32 #[.pointer none, .agg #[.int .i64 at_, .int .u8 val, .int .i64 xf]] w fun e w' => e = .returned (.tuple #[noFrame, .bool false, .int .i64 13]) ∧ Below w.heap.size w w' := by
  have hbA : Below w.heap.size w ((w.alloc (.cells #[.int .i64 at_, .int .u8 val, .int .i64 xf] 40)).alloc (.cells #[.slice none 0 0, .int .i64 0, .int .i64 0, .int .i64 0] 46)) := ((Below.refl _ _).alloc (Nat.le_refl _) _).alloc (by simp) _
  have HBf := Lib.hid (show Box ((w.alloc (.cells #[.int .i64 at_, .int .u8 val, .int .i64 xf] 40)).alloc (.cells #[.slice none 0 0, .int .i64 0, .int .i64 0, .int .i64 0] 46)) (w.heap.size + 1) #[.slice none 0 0, .int .i64 0, .int .i64 0, .int .i64 0] by have := Box.alloc_ (w := w.alloc (.cells #[.int .i64 at_, .int .u8 val, .int .i64 xf] 40)) (cs := #[.slice none 0 0, .int .i64 0, .int .i64 0, .int .i64 0]) (e := 46); simpa using this)
  go_enter Try.func32, Try.ntmps32
  go_wp2
  obtain ⟨qz, zz, lz⟩ := HBf.out
  refine bodyPost_ret (v := .tuple #[noFrame, .bool false, .int .i64 13]) (by simp [results, Try.results32, go_sem, qz, zz, lz, noFrame]) rfl ⟨rfl, hbA⟩
theorem box_putz {w : World} {b : Nat} (h : Box w b #[.slice none 0 0, .int .i64 0, .int .i64 0, .int .i64 0]) :
    Box ((((w.setCell ⟨b, 0, none⟩ (.slice none 0 0)).setCell ⟨b, 1, none⟩ (.int .i64 0)).setCell ⟨b, 2, none⟩ (.int .i64 0)).setCell ⟨b, 3, none⟩ (.int .i64 0)) b #[.slice none 0 0, .int .i64 0, .int .i64 0, .int .i64 0] :=
  (((h.set (k := 0) (v := .slice none 0 0) (cs' := #[.slice none 0 0, .int .i64 0, .int .i64 0, .int .i64 0]) (by simp) rfl).set (k := 1) (v := .int .i64 0) (cs' := #[.slice none 0 0, .int .i64 0, .int .i64 0, .int .i64 0]) (by simp) rfl).set (k := 2) (v := .int .i64 0) (cs' := #[.slice none 0 0, .int .i64 0, .int .i64 0, .int .i64 0]) (by simp) rfl).set (k := 3) (v := .int .i64 0) (cs' := #[.slice none 0 0, .int .i64 0, .int .i64 0, .int .i64 0]) (by simp) rfl
theorem below_putz {w0 w : World} {B b : Nat} (h : Below B w0 w) (hb : B ≤ b) :
    Below B w0 ((((w.setCell ⟨b, 0, none⟩ (.slice none 0 0)).setCell ⟨b, 1, none⟩ (.int .i64 0)).setCell ⟨b, 2, none⟩ (.int .i64 0)).setCell ⟨b, 3, none⟩ (.int .i64 0)) :=
  (((h.setCell (p := ⟨b, 0, none⟩) hb _).setCell (p := ⟨b, 1, none⟩) hb _).setCell (p := ⟨b, 2, none⟩) hb _).setCell (p := ⟨b, 3, none⟩) hb _
set_option maxRecDepth 100000 in
set_option maxHeartbeats 4000000 in
theorem char_bad (cs : Value) (ch t15 t35 : Int) (fi la fl : Int) (ac : Bool) (lt id_ at_ val xf E : Int) (g : Nat) (w : World) (hB : Box w g (rcvCells ch t15 t35 cs fi la fl ac lt id_))
    (hE : ((at_ < 0 ∨ 1152921504606846976 < at_) ∧ E = 3) ∨ (0 ≤ at_ ∧ at_ ≤ 1152921504606846976 ∧ (at_ < lt ∨ at_ < id_) ∧ E = 7)) :
    Calls Try.prog 32 #[iptr g, .agg #[.int .i64 at_, .int .u8 val, .int .i64 xf]] w fun e w' => e = .returned (.tuple #[noFrame, .bool false, .int .i64 E]) ∧ Below w.heap.size w w' := by
  have hbA : Below w.heap.size w ((w.alloc (.cells #[.int .i64 at_, .int .u8 val, .int .i64 xf] 40)).alloc (.cells #[.slice none 0 0, .int .i64 0, .int .i64 0, .int .i64 0] 46)) := ((Below.refl _ _).alloc (Nat.le_refl _) _).alloc (by simp) _
  have HBf := Lib.hid (show Box ((w.alloc (.cells #[.int .i64 at_, .int .u8 val, .int .i64 xf] 40)).alloc (.cells #[.slice none 0 0, .int .i64 0, .int .i64 0, .int .i64 0] 46)) (w.heap.size + 1) #[.slice none 0 0, .int .i64 0, .int .i64 0, .int .i64 0] by have := Box.alloc_ (w := w.alloc (.cells #[.int .i64 at_, .int .u8 val, .int .i64 xf] 40)) (cs := #[.slice none 0 0, .int .i64 0, .int .i64 0, .int .i64 0]) (e := 46); simpa using this)
  have HBe := Lib.hid ((Box.alloc_ (w := w) (cs := #[.int .i64 at_, .int .u8 val, .int .i64 xf]) (e := 40)).alloc' (.cells #[.slice none 0 0, .int .i64 0, .int .i64 0, .int .i64 0] 46))
  have HR := Lib.hid (hB.below hbA)
  obtain ⟨bx, hbx⟩ : ∃ b, w.heap.size = b := ⟨_, rfl⟩
  obtain ⟨W1, hW1⟩ : ∃ W, (w.alloc (.cells #[.int .i64 at_, .int .u8 val, .int .i64 xf] 40)).alloc (.cells #[.slice none 0 0, .int .i64 0, .int .i64 0, .int .i64 0] 46) = W := ⟨_, rfl⟩
  rw [hW1] at HBe HBf HR hbA
  have HBA := Lib.hid hbA
  obtain ⟨q, z, l⟩ := HR.out
  unfold rcvCells at q
  obtain ⟨qx, zx, lx⟩ := HBe.out
  rw [hbx] at qx zx lx HBe HBf
  obtain ⟨qf, zf, lf⟩ := HBf.out
  clear hB hbA
  have HBB := Lib.hid (show w.heap.size ≤ bx + 1 by omega)

  rcases hE with ⟨h, rfl⟩ | ⟨h1, h2, h3, rfl⟩
  · by_cases h1 : at_ < 0
    · have d1 : decide (at_ < 0) = true := by simpa using h1
      clear h h1
      go_enter Try.func32, Try.ntmps32
      go_wp2
      obtain ⟨qz, zz, lz⟩ := box_putz HBf.out
      refine bodyPost_ret (v := .tuple #[noFrame, .bool false, .int .i64 3]) (by simp [results, Try.results32, go_sem, qz, zz, lz, noFrame]) rfl ⟨rfl, below_putz (HBA.out) HBB.out⟩
    · have d1 : decide (at_ < 0) = false := by simpa using h1
      have d2 : decide (1152921504606846976 < at_) = true := by simp; omega
      clear h h1
      go_enter Try.func32, Try.ntmps32
      go_wp2
      obtain ⟨qz, zz, lz⟩ := box_putz HBf.out
      refine bodyPost_ret (v := .tuple #[noFrame, .bool false, .int .i64 3]) (by simp [results, Try.results32, go_sem, qz, zz, lz, noFrame]) rfl ⟨rfl, below_putz (HBA.out) HBB.out⟩
  · have d1 : decide (at_ < 0) = false := by simp; omega
    have d2 : decide (1152921504606846976 < at_) = false := by simp; omega
    by_cases h4 : at_ < lt
    · have d3 : decide (at_ < lt) = true := by simpa using h4
      clear h1 h2 h3 h4
      go_enter Try.func32, Try.ntmps32
      go_upto_region 3 with fail
      clear hW1 hbx
      go_upto_region 5 with fail
      go_cut [24] (fun u x => u = .bool true ∧ Below W1.heap.size W1 x)
      case first =>
        go_quiet (fail)
        go_wp2_with fail
        go_meet
        case rel => exact ⟨rfl, by first | exact below_drewN (Below.refl _ _) _ | exact below_drew (Below.refl _ _)⟩
      case rest =>
        obtain ⟨rfl, hbc⟩ := hcut
        have HBC := Lib.hid (HBf.out.below hbc)
        have HBD := Lib.hid (ext_trans HBA.out hbc)
        clear hbc q z l qx zx lx qf zf lf
        obtain ⟨qf, zf, lf⟩ := HBC.out
        go_wp2
        obtain ⟨qz, zz, lz⟩ := box_putz HBC.out
        refine bodyPost_ret (v := .tuple #[noFrame, .bool false, .int .i64 7]) (by simp [results, Try.results32, go_sem, qz, zz, lz, noFrame]) rfl ⟨rfl, below_putz (HBD.out) HBB.out⟩
    · have d3 : decide (at_ < lt) = false := by simpa using h4
      have d4 : decide (at_ < id_) = true := by simp; omega
      clear h1 h2 h3 h4
      go_enter Try.func32, Try.ntmps32
      go_upto_region 3 with fail
      clear hW1 hbx
      go_upto_region 5 with fail
      go_cut [24] (fun u x => u = .bool true ∧ Below W1.heap.size W1 x)
      case first =>
        go_quiet (fail)
        go_wp2_with fail
        go_meet
        case rel => exact ⟨rfl, by first | exact below_drewN (Below.refl _ _) _ | exact below_drew (Below.refl _ _)⟩
      case rest =>
        obtain ⟨rfl, hbc⟩ := hcut
        have HBC := Lib.hid (HBf.out.below hbc)
        have HBD := Lib.hid (ext_trans HBA.out hbc)
        clear hbc q z l qx zx lx qf zf lf
        obtain ⟨qf, zf, lf⟩ := HBC.out
        go_wp2
        obtain ⟨qz, zz, lz⟩ := box_putz HBC.out
        refine bodyPost_ret (v := .tuple #[noFrame, .bool false, .int .i64 7]) (by simp [results, Try.results32, go_sem, qz, zz, lz, noFrame]) rfl ⟨rfl, below_putz (HBD.out) HBB.out⟩
end Go.Proofs.Ytoliplochipoeaa

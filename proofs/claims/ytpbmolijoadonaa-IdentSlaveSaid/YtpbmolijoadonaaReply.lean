/- The statements' test 'Reply': a small reply. -/
import Derived.Test.YtpbmolijoadonaaObj
set_option linter.unusedVariables false
set_option linter.unusedSimpArgs false
namespace Go.Proofs.Ytpbmolijoadonaa
open Go.RowKit

set_option maxHeartbeats 400000 in
theorem reply_any (F E C L N : Int) (M : Bool) (dA oA : Option Addr) (dn dc oc B : Nat) (os : List Ob) (b : Bool) (w : World) (hr : Rd w B 2 oA os.length (obCells os)) (hm : os.length ≤ maxLen) (hb : (decide (dn ≤ 300) && objSmall os) = b) :
    Calls Try.prog 18 #[.agg #[.int .i64 F, .int .i64 E, .slice dA dn dc, .int .i64 C, .int .i64 L, .bool M, .int .i64 N, .slice oA os.length oc]] w fun e w' => e = .returned (.bool b) ∧ Below w.heap.size w w' := by
  have h0 := hr.fits (by decide)
  obtain ⟨y, hy⟩ : ∃ y, objSmall os = y := ⟨_, rfl⟩
  rw [hy] at hb
  have HO := Lib.hid (fun w' => objects_any os oA oc w.heap.size w' (hm := hm))
  have HY := Lib.hid hy; clear hy hr
  by_cases hd : dn ≤ 300
  · have hd' : (dn : Int) ≤ 300 := by omega
    rw [decide_eq_true hd, Bool.true_and] at hb
    subst hb
    clear hd
    go_enter Try.func18, Try.ntmps18
    go_wp2_with fail
    refine (HO.out _ (h0.alloc' _ (Nat.le_refl _))).mono ?_
    rintro e w' ⟨rfl, rfl⟩
    rw [HY.out]
    go_wp2
    go_ret
    exact ⟨rfl, (Below.refl _ _).alloc (Nat.le_refl _) _⟩
  · have hd' : decide ((dn : Int) ≤ 300) = false := by simp; omega
    rw [decide_eq_false hd, Bool.false_and] at hb
    subst hb
    clear hd
    go_enter Try.func18, Try.ntmps18
    go_wp2
    go_ret
    exact ⟨rfl, (Below.refl _ _).alloc (Nat.le_refl _) _⟩

end Go.Proofs.Ytpbmolijoadonaa

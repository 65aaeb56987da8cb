/- Layer 10: the example of the chapter and the law RequestValid. -/
import Derived.Test.YtoliplochipoeaaTReqE
import Derived.Test.YtoliplochipoeaaTReqD
import Derived.Test.YtoliplochipoeaaReg
set_option linter.unusedVariables false
set_option linter.unusedSimpArgs false
namespace Go.Proofs.Ytoliplochipoeaa
open Go.RowKit

set_option maxRecDepth 100000 in
set_option maxHeartbeats 1000000 in
theorem qawake_any (w : World) : Calls Try.prog 16 #[] w fun e w' => e = .returned (.bool true) ∧ Below w.heap.size w w' := by
  have he : ∀ w, Calls Try.prog 8 #[qv 3 300 2 0 0] w fun e w' => ∃ A, e = .returned (.tuple #[.slice A 5 5, .int .i64 0]) ∧ Rd w' w'.heap.size 1 A 5 (by8 [3, 1, 44, 0, 2]) ∧ Below w.heap.size w w' := fun w => by
    refine (enc_yes 3 300 2 0 0 (by decide +kernel) w).mono ?_
    rintro e w' ⟨A, m, rfl, hm, hR, hb⟩
    obtain rfl : m = 5 := hm
    exact ⟨A, rfl, hR, hb⟩
  have hl : ∀ w, Calls Try.prog 38 #[.int .i64 1] w fun e w' => e = .returned (.int .i64 2000) ∧ w = w' := fun w => lim_any 1 w
  have HE := Lib.hid he; have HL := Lib.hid hl; clear he hl
  go_enter Try.func16, Try.ntmps16
  go_wp2_with fail
  refine (HE.out _).mono ?_
  rintro e w1 ⟨A1, rfl, hR1, hb1⟩
  go_wp2_with fail
  refine (dec_other 6 w1.heap.size 0 5 5 _ (by simp) (by omega) (by omega) (by omega) (by omega) (by omega) (by omega) (by rw [cell_of_row _ w1.heap.size 0 _ _ (0, 0) (heap_alloc_new w1 _)]; rfl)).mono ?_
  rintro e w2 ⟨rfl, hb2⟩
  have hb3 : Below w.heap.size w w2 := ext_alloc' hb1 (by simpa using hb2)
  have hR2 : Rd w2 w1.heap.size 1 A1 5 (by8 [3, 1, 44, 0, 2]) := (hR1.alloc' _ (Nat.le_refl _)).below hb2 (by simp)
  have hs : w1.heap.size ≤ w2.heap.size := by have := hb2.size; simp at this; omega
  have hc2 : ∀ o, (convert 22 9 (.slice A1 5 5)).run Try.prog (w2.alloc o) = .ok (.string (strOfNums [3, 1, 44, 0, 2])) (w2.alloc o) := fun o => (hR2.alloc' o hs).str
  have hc3 : ∀ (W : World) (N : Nat), W.heap.size = N → (convert 22 9 (.slice (some ⟨N, 0, none⟩) 5 5)).run Try.prog (W.alloc (.cells #[.int .u8 3, .int .u8 1, .int .u8 44, .int .u8 0, .int .u8 2] 5)) = .ok (.string (strOfNums [3, 1, 44, 0, 2])) (W.alloc (.cells #[.int .u8 3, .int .u8 1, .int .u8 44, .int .u8 0, .int .u8 2] 5)) := fun W N h => h ▸
    Rd.str (B := W.heap.size + 1) (xs := [3, 1, 44, 0, 2]) (Rd.lit rfl (Nat.lt_succ_self _))
  have hc4 := hc3 (w2.alloc (.cells #[.int .i64 0, .int .i64 0, .int .i64 0, .int .i64 0, .int .i64 0] 29)) (w2.heap.size + 1) (by simp)
  have hc5 := hc2 (.cells #[.int .i64 0, .int .i64 0, .int .i64 0, .int .i64 0, .int .i64 0] 29)
  clear hc2 hc3 hR1 hR2 hb1 hb2
  go_wp2_with fail
  refine (HL.out _).mono ?_
  rintro e w' ⟨rfl, rfl⟩
  go_wp2
  go_ret
  exact ⟨rfl, ext_alloc' (ext_alloc' hb3 (Below.refl _ _)) (Below.refl _ _)⟩

end Go.Proofs.Ytoliplochipoeaa

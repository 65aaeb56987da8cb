/- Layer 10: the law RequestDecode. -/
import Derived.Test.YtiebgbdnbfahoaaReqB
set_option linter.unusedVariables false
set_option linter.unusedSimpArgs false
namespace Go.Proofs.Ytiebgbdnbfahoaa
open Go.RowKit

set_option maxRecDepth 100000 in
set_option maxHeartbeats 2000000 in
theorem lawDec_any (A : Option Addr) (n0 c0 : Nat) (xs0 : List Int) (w : World) (hr0 : Rd w w.heap.size 1 A n0 (by8 xs0)) (hl : n0 ≤ c0) (hc : c0 ≤ maxLen) (hx0 : ∀ x ∈ xs0, 0 ≤ x ∧ x ≤ 255) :
    Calls Try.prog 5 #[.slice A n0 c0] w fun e w' => e = .returned (.bool true) ∧ Below w.heap.size w w' := by
  obtain ⟨m, hm⟩ : ∃ m, min n0 12 = m := ⟨_, rfl⟩
  have hr := hr0.take (k := m) (by omega)
  obtain ⟨xs, hxs⟩ : ∃ xs, xs0.take m = xs := ⟨_, rfl⟩
  rw [Nat.mul_one, by8, ← List.map_take, hxs] at hr
  have hB := fun w => bytes_any A n0 c0 12 w hl hc (by omega)
  rw [hm] at hB
  have hx : ∀ x ∈ xs, 0 ≤ x ∧ x ≤ 255 := fun x h => hx0 x (List.mem_of_mem_take (hxs ▸ h))
  obtain ⟨f, a, n, c, o, er, hcase, hP, hR⟩ := dec_both xs hx
  have HB := Lib.hid hB; have HP := Lib.hid hP; have HR := Lib.hid hR
  clear hB hP hR hr0 hl hc hm hx0 hx hxs
  rcases hcase with ⟨rfl, hv, he⟩ | ⟨her, rfl, rfl, rfl, rfl, rfl⟩
  · have HE := Lib.hid he; have HV := Lib.hid hv; clear he hv
    have hml : xs.length = m := hr.len8
    have HM := Lib.hid hml; clear hml
    go_enter Try.func5, Try.ntmps5
    go_wp2_with fail
    refine (HB.out _).mono ?_
    rintro e w' ⟨rfl, rfl⟩
    go_wp2_with fail
    refine (HP.out _ _ _ _ _ hr).mono ?_
    rintro e w1 ⟨rfl, hb1⟩
    have hbx := ext_alloc' hb1 (Below.refl _ (w1.alloc (.cells #[.int .i64 f, .int .i64 a, .int .i64 n, .int .i64 c, .int .i64 o] 23)))
    go_wp2_with fail
    refine (HR.out _ _ _ _ _ (hr.below hbx (Nat.le_refl _))).mono ?_
    rintro e w2 ⟨rfl, hb2⟩
    obtain ⟨q2, z2, l2⟩ := box_new hb2
    have hby := ext_alloc' hb1 (by simpa using hb2)
    clear hbx hb1 hb2
    go_wp2_with fail
    refine (enc_as _ _ _ _ _ xs m HV.out HE.out HM.out _).mono ?_
    rintro e w3 ⟨A3, rfl, hR3, hb3⟩
    have hbz := ext_alloc' hby (by simpa using hb3)
    clear hb3
    go_wp2_with fail
    refine (awake_any _).mono ?_
    rintro e w4 ⟨rfl, hb4⟩
    have hbq := ext_trans hbz hb4
    have s1 := (hR3.below hb4 (Nat.le_refl _)).str (c := m)
    have s2 := (hr.below hbq (Nat.le_refl _)).str (c := c0)
    clear hbz hb4 hR3 hr hby
    go_wp2
    go_ret
    exact ⟨rfl, hbq⟩
  · have he := enc_no 0 0 0 0 0 (by decide +kernel)
    have HE := Lib.hid he; clear he
    go_enter Try.func5, Try.ntmps5
    go_wp2_with fail
    refine (HB.out _).mono ?_
    rintro e w' ⟨rfl, rfl⟩
    go_wp2_with fail
    refine (HP.out _ _ _ _ _ hr).mono ?_
    rintro e w1 ⟨rfl, hb1⟩
    have hbx := ext_alloc' hb1 (Below.refl _ (w1.alloc (.cells #[.int .i64 0, .int .i64 0, .int .i64 0, .int .i64 0, .int .i64 0] 23)))
    go_wp2_with fail
    refine (HR.out _ _ _ _ _ (hr.below hbx (Nat.le_refl _))).mono ?_
    rintro e w2 ⟨rfl, hb2⟩
    obtain ⟨q2, z2, l2⟩ := box_new hb2
    have hby := ext_alloc' hb1 (by simpa using hb2)
    clear hbx hb1 hb2
    go_wp2_with fail
    refine (HE.out _).mono ?_
    rintro e w3 ⟨rfl, hb3⟩
    have hbz := ext_alloc' hby (by simpa using hb3)
    clear hb3
    go_wp2_with fail
    refine (awake_any _).mono ?_
    rintro e w4 ⟨rfl, hb4⟩
    have hbq := ext_trans hbz hb4
    clear hbz hb4 hr hby
    go_wp2
    go_ret
    exact ⟨rfl, hbq⟩
end Go.Proofs.Ytiebgbdnbfahoaa

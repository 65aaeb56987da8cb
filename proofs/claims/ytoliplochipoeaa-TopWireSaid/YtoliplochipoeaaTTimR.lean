/- Layer 6: contracts of the timing functions, the program's and the reference's. -/
import Derived.Test.YtoliplochipoeaaTSetA
set_option linter.unusedVariables false
set_option linter.unusedSimpArgs false
namespace Go.Proofs.Ytoliplochipoeaa
open Go.RowKit

def upZ (a b : Int) : Int := (a + b - 1) / b
def charZ (b p : Int) : Int := if validB b p then upZ 11000000 b else 0
def t15Z (b p : Int) : Int := if validB b p then (if 19200 < b then 750 else upZ 16500000 b) else 0
def t35Z (b p : Int) : Int := if validB b p then (if 19200 < b then 1750 else upZ 38500000 b) else 0
def frameZ (b p n : Int) : Int := if 0 ≤ n ∧ n ≤ 256 then n * charZ b p else 0
theorem baud_pos {b p : Int} (h : validB b p = true) : 1200 ≤ b ∧ b ≤ 115200 := by
  simp only [validB, Bool.and_eq_true, decide_eq_true_eq] at h
  have := h.1
  simp only [bauds, List.mem_cons, List.not_mem_nil, or_false] at this
  omega
theorem char_bd (b p : Int) : 0 ≤ charZ b p ∧ charZ b p ≤ 9167 := by
  unfold charZ
  split
  · rename_i h
    simp only [validB, Bool.and_eq_true, decide_eq_true_eq] at h
    have := h.1
    simp only [bauds, List.mem_cons, List.not_mem_nil, or_false] at this
    rcases this with rfl | rfl | rfl | rfl | rfl | rfl | rfl | rfl <;> decide
  · omega

theorem up_any (a b : Int) (ha : 0 ≤ a) (ha2 : a ≤ 100000000) (hb : 1 ≤ b) (hb2 : b ≤ 1000000) (w : World) : Calls Try.prog 30 #[.int .i64 a, .int .i64 b] w fun e w' => e = .returned (.int .i64 (upZ a b)) ∧ w = w' := by
  have hne : (b == 0) = false := by simp; omega
  have hn : 0 ≤ a + b - 1 := by omega
  go_enter Try.func30, Try.ntmps30
  go_wp2
  go_ret
  exact ⟨rfl, rfl⟩

theorem char_any (b p : Int) (w : World) : Calls Try.prog 12 #[.agg #[.int .i64 b, .int .i64 p]] w fun e w' => e = .returned (.int .i64 (charZ b p)) ∧ Below w.heap.size w w' := by
  obtain ⟨r, hr⟩ : ∃ r, validB b p = r := ⟨_, rfl⟩
  have HV := Lib.hid (fun w => valid_any b p r hr w)
  cases r
  · have hz : charZ b p = 0 := by rw [charZ, if_neg (by rw [hr]; decide)]
    have HZ := Lib.hid hz; clear hz hr
    go_enter Try.func12, Try.ntmps12
    go_wp2_with fail
    refine (HV.out _).mono ?_
    rintro e w1 ⟨rfl, hb1⟩
    go_wp2
    go_ret
    exact ⟨by rw [HZ.out]; rfl, ext_alloc' (Below.refl _ w) (by simpa using hb1)⟩
  · have hz : charZ b p = upZ 11000000 b := by rw [charZ, if_pos hr]
    obtain ⟨h1, h2⟩ := baud_pos hr
    have HZ := Lib.hid hz; clear hz hr
    go_enter Try.func12, Try.ntmps12
    go_wp2_with fail
    refine (HV.out _).mono ?_
    rintro e w1 ⟨rfl, hb1⟩
    have q1 := (box_new hb1).1
    go_wp2_with fail
    refine (up_any _ _ (by omega) (by omega) (by omega) (by omega) _).mono ?_
    rintro e w2 ⟨rfl, rfl⟩
    go_wp2
    go_ret
    exact ⟨by rw [HZ.out]; rfl, ext_alloc' (Below.refl _ w) (by simpa using hb1)⟩

theorem t15_any (b p : Int) (w : World) : Calls Try.prog 52 #[.agg #[.int .i64 b, .int .i64 p]] w fun e w' => e = .returned (.int .i64 (t15Z b p)) ∧ Below w.heap.size w w' := by
  obtain ⟨r, hr⟩ : ∃ r, validB b p = r := ⟨_, rfl⟩
  have HV := Lib.hid (fun w => valid_any b p r hr w)
  cases r
  · have hz : t15Z b p = 0 := by rw [t15Z, if_neg (by rw [hr]; decide)]
    have HZ := Lib.hid hz; clear hz hr
    go_enter Try.func52, Try.ntmps52
    go_wp2_with fail
    refine (HV.out _).mono ?_
    rintro e w1 ⟨rfl, hb1⟩
    have q1 := (box_new hb1).1
    go_wp2
    go_ret
    exact ⟨by rw [HZ.out]; rfl, ext_alloc' (Below.refl _ w) (by simpa using hb1)⟩
  · by_cases hf : 19200 < b
    · have hz : t15Z b p = 750 := by rw [t15Z, if_pos hr, if_pos hf]
      have HZ := Lib.hid hz; clear hz hr
      go_enter Try.func52, Try.ntmps52
      go_wp2_with fail
      refine (HV.out _).mono ?_
      rintro e w1 ⟨rfl, hb1⟩
      have q1 := (box_new hb1).1
      go_wp2
      go_ret
      exact ⟨by rw [HZ.out]; rfl, ext_alloc' (Below.refl _ w) (by simpa using hb1)⟩
    · have hz : t15Z b p = upZ 16500000 b := by rw [t15Z, if_pos hr, if_neg hf]
      obtain ⟨h1, h2⟩ := baud_pos hr
      have HZ := Lib.hid hz; clear hz hr
      go_enter Try.func52, Try.ntmps52
      go_wp2_with fail
      refine (HV.out _).mono ?_
      rintro e w1 ⟨rfl, hb1⟩
      have q1 := (box_new hb1).1
      go_wp2_with fail
      refine (up_any _ _ (by omega) (by omega) (by omega) (by omega) _).mono ?_
      rintro e w2 ⟨rfl, rfl⟩
      go_wp2
      go_ret
      exact ⟨by rw [HZ.out]; rfl, ext_alloc' (Below.refl _ w) (by simpa using hb1)⟩

theorem t35_any (b p : Int) (w : World) : Calls Try.prog 53 #[.agg #[.int .i64 b, .int .i64 p]] w fun e w' => e = .returned (.int .i64 (t35Z b p)) ∧ Below w.heap.size w w' := by
  obtain ⟨r, hr⟩ : ∃ r, validB b p = r := ⟨_, rfl⟩
  have HV := Lib.hid (fun w => valid_any b p r hr w)
  cases r
  · have hz : t35Z b p = 0 := by rw [t35Z, if_neg (by rw [hr]; decide)]
    have HZ := Lib.hid hz; clear hz hr
    go_enter Try.func53, Try.ntmps53
    go_wp2_with fail
    refine (HV.out _).mono ?_
    rintro e w1 ⟨rfl, hb1⟩
    have q1 := (box_new hb1).1
    go_wp2
    go_ret
    exact ⟨by rw [HZ.out]; rfl, ext_alloc' (Below.refl _ w) (by simpa using hb1)⟩
  · by_cases hf : 19200 < b
    · have hz : t35Z b p = 1750 := by rw [t35Z, if_pos hr, if_pos hf]
      have HZ := Lib.hid hz; clear hz hr
      go_enter Try.func53, Try.ntmps53
      go_wp2_with fail
      refine (HV.out _).mono ?_
      rintro e w1 ⟨rfl, hb1⟩
      have q1 := (box_new hb1).1
      go_wp2
      go_ret
      exact ⟨by rw [HZ.out]; rfl, ext_alloc' (Below.refl _ w) (by simpa using hb1)⟩
    · have hz : t35Z b p = upZ 38500000 b := by rw [t35Z, if_pos hr, if_neg hf]
      obtain ⟨h1, h2⟩ := baud_pos hr
      have HZ := Lib.hid hz; clear hz hr
      go_enter Try.func53, Try.ntmps53
      go_wp2_with fail
      refine (HV.out _).mono ?_
      rintro e w1 ⟨rfl, hb1⟩
      have q1 := (box_new hb1).1
      go_wp2_with fail
      refine (up_any _ _ (by omega) (by omega) (by omega) (by omega) _).mono ?_
      rintro e w2 ⟨rfl, rfl⟩
      go_wp2
      go_ret
      exact ⟨by rw [HZ.out]; rfl, ext_alloc' (Below.refl _ w) (by simpa using hb1)⟩

end Go.Proofs.Ytoliplochipoeaa

/- Layer 10: the law RequestWrites. -/
import Derived.Test.YtiebgbdnbfahoaaReqC
set_option linter.unusedVariables false
set_option linter.unusedSimpArgs false
namespace Go.Proofs.Ytiebgbdnbfahoaa
open Go.RowKit

set_option maxRecDepth 100000 in
set_option maxHeartbeats 2000000 in
theorem lawWr_in (f : Int) (A : Option Addr) (n0 c0 : Nat) (w : World) (hl : n0 ≤ c0) (hc : c0 ≤ maxLen) (h0 : 0 ≤ f) (h255 : f ≤ 255) (hin : (1 ≤ f ∧ f ≤ 4) ∨ f = 17 ∨ f = 43) :
    Calls Try.prog 7 #[.int .u8 f, .slice A n0 c0] w fun e w' => e = .returned (.bool true) ∧ Below w.heap.size w w' := by
  obtain ⟨m, hm⟩ : ∃ m, min n0 12 = m := ⟨_, rfl⟩
  have hB := fun w => bytes_any A n0 c0 12 w hl hc (by omega)
  rw [hm] at hB
  have HB := Lib.hid hB
  clear hB hl hc hm
  rcases hin with ⟨k1, k2⟩ | rfl | rfl
  all_goals
    go_enter Try.func7, Try.ntmps7
    go_wp2_with fail
    refine (HB.out _).mono ?_
    rintro e w' ⟨rfl, rfl⟩
    go_wp2_with fail
    refine (awake_any _).mono ?_
    rintro e w1 ⟨rfl, hb1⟩
    go_wp2
    go_ret
    exact ⟨rfl, hb1⟩

set_option maxRecDepth 100000 in
set_option maxHeartbeats 2000000 in
theorem lawWr_out (f : Int) (A : Option Addr) (n0 c0 : Nat) (xs0 : List Int) (w : World) (hr0 : Rd w w.heap.size 1 A n0 (by8 xs0)) (hl : n0 ≤ c0) (hc : c0 ≤ maxLen) (h0 : 0 ≤ f) (h255 : f ≤ 255) (hf : ¬ (1 ≤ f ∧ f ≤ 4)) (h17 : f ≠ 17) (h43 : f ≠ 43) :
    Calls Try.prog 7 #[.int .u8 f, .slice A n0 c0] w fun e w' => e = .returned (.bool true) ∧ Below w.heap.size w w' := by
  obtain ⟨m, hm⟩ : ∃ m, min n0 12 = m := ⟨_, rfl⟩
  have hm12 : m ≤ 12 := by omega
  have hr := hr0.take (k := m) (by omega)
  obtain ⟨xs, hxs⟩ : ∃ xs, xs0.take m = xs := ⟨_, rfl⟩
  rw [Nat.mul_one, by8, ← List.map_take, hxs] at hr
  have hB := fun w => bytes_any A n0 c0 12 w hl hc (by omega)
  rw [hm] at hB
  have HB := Lib.hid hB; have HF := Lib.hid hf
  have k17 : (f == 17) = false := by simpa using h17
  have k43 : (f == 43) = false := by simpa using h43
  clear hB hl hc hm hxs hr0
  rcases (show f < 1 ∨ (1 ≤ f ∧ 4 < f) by omega) with k | ⟨k0, k⟩
  all_goals
    clear hf
    first
      | have hg : decide (1 ≤ f) = false := by simp; omega
      | have hg : decide (f ≤ 4) = false := by simp; omega
    go_enter Try.func7, Try.ntmps7
    go_wp2_with fail
    refine (HB.out _).mono ?_
    rintro e w' ⟨rfl, rfl⟩
    go_wp2_with (at_builtin; refine wpList_appR (.tmp 26) (.tmp 27) 29 w.heap.size 5 _ 1 1 _ 1 [.int .u8 f] w.heap.size A m c0 _ Try.underlying29 byteInfo rfl (by decide) rfl rfl rfl rfl (World.ownsRow_lit _ _ 1 (Nat.le_refl _) (by simp [maxLen]) rfl) (hr.alloc' _ (Nat.le_refl _)) (one_ints _ _) (by omega) (by omega) (by simp) ?_; intro v1 w1 hown1 hg1 hb1)
    clear hg1
    have hbw1 : Below w.heap.size w w1 := ((Below.refl _ w).alloc (Nat.le_refl _) _).trans hb1
    have e8 : [Value.int .u8 f] ++ by8 xs = by8 (f :: xs) := rfl
    rw [e8, Nat.add_comm 1 m] at hown1
    obtain ⟨g, cap, rfl, hgw, hglt⟩ := hown1.form (by omega)
    have hR1 := Rd.of_own hown1
    obtain ⟨hmx, b, off, hA, hb, d0, hall⟩ := hR1.get8'
    have hd := dec_other f b off cap (m + 1) w1 hb h0 h255 HF.out h17 h43 (by omega) d0
    rw [← hA] at hd
    have HD := Lib.hid hd
    clear hd d0 e8 hown1 hR1 hb1 hr hA hb hmx hall
    go_simp
    go_wp2_with fail
    refine HD.out.mono ?_
    rintro e w2 ⟨rfl, hb2⟩
    have hbx := ext_trans hbw1 hb2
    clear hb2 hbw1
    go_wp2_with fail
    refine (awake_any _).mono ?_
    rintro e w3 ⟨rfl, hb3⟩
    obtain ⟨q3, z3, l3⟩ := box_new hb3
    have hby := ext_alloc' hbx (by simpa using hb3)
    clear hb3 hbx
    go_wp2
    go_ret
    exact ⟨rfl, hby⟩
theorem lawWr_any (f : Int) (A : Option Addr) (n0 c0 : Nat) (xs0 : List Int) (w : World) (hr0 : Rd w w.heap.size 1 A n0 (by8 xs0)) (hl : n0 ≤ c0) (hc : c0 ≤ maxLen) (h : 0 ≤ f ∧ f ≤ 255) :
    Calls Try.prog 7 #[.int .u8 f, .slice A n0 c0] w fun e w' => e = .returned (.bool true) ∧ Below w.heap.size w w' := by
  by_cases hin : (1 ≤ f ∧ f ≤ 4) ∨ f = 17 ∨ f = 43
  · exact lawWr_in f A n0 c0 w hl hc h.1 h.2 hin
  · exact lawWr_out f A n0 c0 xs0 w hr0 hl hc h.1 h.2 (fun h => hin (.inl h)) (fun h => hin (.inr (.inl h))) (fun h => hin (.inr (.inr h)))
end Go.Proofs.Ytiebgbdnbfahoaa

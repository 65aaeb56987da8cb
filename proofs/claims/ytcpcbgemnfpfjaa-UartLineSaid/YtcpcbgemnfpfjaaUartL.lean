/- The example of chapter 7, and the laws UartRound, UartDecode, UartFlip, UartMismatch as contracts. -/
import Derived.Test.YtcpcbgemnfpfjaaUartS
set_option linter.unusedVariables false
set_option linter.unusedSimpArgs false
namespace Go.Proofs.Ytcpcbgemnfpfjaa
open Go.RowKit

/-! ### The contracts with their results named, so that the walk sees no equation -/
theorem encode_eq (b : Nat) (hb : b ≤ 255) (p : Int) (l : List Bool) (n : Nat) (hl : encode b p = l) (hn : l.length = n) (w : World) : Calls Try.prog 9 #[.int .u8 b, .int .i64 p] w fun e w' =>
    ∃ A c, e = .returned (.slice A n c) ∧ w'.ownsRow w.heap.size 4 1 (.slice A n c) n (l.map Value.bool) ∧ Rd w' w'.heap.size 1 A n (l.map Value.bool) ∧ Below w.heap.size w w' := by
  subst hl; subst hn
  refine (encode_any b hb p w).mono ?_
  rintro e w' ⟨v, rfl, hown, hbel⟩
  obtain ⟨A, c, rfl, _, hR⟩ := own_form hown
  exact ⟨A, c, rfl, hown, hR, hbel⟩
theorem refEncode_eq (b : Nat) (hb : b ≤ 255) (p : Int) (l : List Bool) (n : Nat) (hl : encode b p = l) (hn : l.length = n) (w : World) : Calls Try.prog 12 #[.int .u8 b, .int .i64 p] w fun e w' =>
    ∃ A c, e = .returned (.slice A n c) ∧ w'.ownsRow w.heap.size 4 1 (.slice A n c) n (l.map Value.bool) ∧ Rd w' w'.heap.size 1 A n (l.map Value.bool) ∧ Below w.heap.size w w' := by
  subst hl; subst hn
  refine (refEncode_any b hb p w).mono ?_
  rintro e w' ⟨v, rfl, hown, hbel⟩
  obtain ⟨A, c, rfl, _, hR⟩ := own_form hown
  exact ⟨A, c, rfl, hown, hR, hbel⟩
theorem decode_eq (l : List Bool) (n : Nat) (A : Option Addr) (c B : Nat) (p : Int) (b : Nat) (f : Int) (o : Bool) (w : World) (hr : Rd w B 1 A n (l.map Value.bool)) (hd : decode l p = (b, f, o)) :
    Calls Try.prog 10 #[.slice A n c, .int .i64 p] w fun e w' => e = .returned (.tuple #[.int .u8 b, .int .i64 f, .bool o]) ∧ Below w.heap.size w w' := by
  have hn : l.length = n := by have := hr.1; simpa using this
  subst hn
  refine (decode_any l A c B p w hr).mono ?_
  rw [hd]
  rintro e w' ⟨rfl, m, rfl⟩
  exact ⟨rfl, below_drewN (Below.refl _ _) _⟩
theorem refDecode_eq (l : List Bool) (n : Nat) (A : Option Addr) (c B : Nat) (p : Int) (b : Nat) (f : Int) (o : Bool) (w : World) (hr : Rd w B 1 A n (l.map Value.bool)) (hd : decode l p = (b, f, o)) :
    Calls Try.prog 14 #[.slice A n c, .int .i64 p] w fun e w' => e = .returned (.tuple #[.int .u8 b, .int .i64 f, .bool o]) ∧ Below w.heap.size w w' := by
  have hn : l.length = n := by have := hr.1; simpa using this
  subst hn
  refine (refDecode_any l A c B p w hr).mono ?_
  rw [hd]
  rintro e w' ⟨rfl, hb⟩
  exact ⟨rfl, hb⟩
theorem same_eq (a b : List Bool) (n m : Nat) (A A' : Option Addr) (c c' B B' : Nat) (x : Bool) (w : World) (hr : Rd w B 1 A n (a.map Value.bool)) (hr' : Rd w B' 1 A' m (b.map Value.bool)) (hm : n ≤ 1000000) (hx : decide (a = b) = x) :
    Calls Try.prog 11 #[.slice A n c, .slice A' m c'] w fun e w' => e = .returned (.bool x) ∧ Below w.heap.size w w' := by
  have hn : a.length = n := by have := hr.1; simpa using this
  have hm' : b.length = m := by have := hr'.1; simpa using this
  subst hn; subst hm'
  refine (same_any a b A A' c c' B B' w hr hr' hm).mono ?_
  rw [hx]
  rintro e w' ⟨rfl, k, rfl⟩
  exact ⟨rfl, below_drewN (Below.refl _ _) _⟩

theorem awake_any (w : World) : Calls Try.prog 13 #[] w fun e w' => e = .returned (.bool true) ∧ Below w.heap.size w w' := by
  go_enter Try.func13, Try.ntmps13
  go_wp2_with fail
  refine (encode_eq 1 (by omega) 1 [false, true, false, false, false, false, false, false, false, true, true] 11 (by decide +kernel) rfl _).mono ?_
  rintro e w1 ⟨A, c, rfl, hown1, hR, hb1⟩
  go_wp2_with fail
  refine (decode_eq _ 11 A c _ 1 1 0 true _ hR (by decide +kernel)).mono ?_
  rintro e w2 ⟨rfl, hb2⟩
  go_wp2_with fail
  refine (encode_eq 1 (by omega) 2 [false, true, false, false, false, false, false, false, false, false, true] 11 (by decide +kernel) rfl _).mono ?_
  rintro e w3 ⟨A3, c3, rfl, hown3, hR3, hb3⟩
  go_wp2_with fail
  refine (same_eq [false, true, false, false, false, false, false, false, false, false, true] [false, true, false, false, false, false, false, false, false, false, true] 11 11 A3 _ c3 11 _ (w3.heap.size + 1) true _ (hR3.keep fun p hp => World.cell?_alloc_lt _ _ p hp) (Rd.lit rfl (by omega)) (by omega) (by decide)).mono ?_
  rintro e w4 ⟨rfl, hb4⟩
  go_wp2
  go_ret
  refine ⟨rfl, ?_⟩
  simp only [World.size_alloc] at hb4
  exact ext_alloc' (ext_trans (ext_trans hb1 hb2) hb3) hb4

theorem dec_enc (b : Nat) (hb : b ≤ 255) (p : Int) (hp : 0 ≤ p ∧ p ≤ 2) : decode (encode b p) p = (b, 0, true) := by
  have : ∀ b : Fin 256, decode (encode b 0) 0 = ((b : Nat), 0, true) ∧ decode (encode b 1) 1 = ((b : Nat), 0, true) ∧ decode (encode b 2) 2 = ((b : Nat), 0, true) := by decide +kernel
  have h := this ⟨b, by omega⟩
  rcases (show p = 0 ∨ p = 1 ∨ p = 2 by omega) with rfl | rfl | rfl
  · exact h.1
  · exact h.2.1
  · exact h.2.2
theorem enc_length (b : Nat) (p : Int) (hp : 0 ≤ p ∧ p ≤ 2) : (encode b p).length = 11 := by rw [encode, if_pos hp]; simp [bitsOf_length]

theorem round_any (b : Nat) (hb : b ≤ 255) (p : Int) (w : World) : Calls Try.prog 3 #[.int .u8 b, .int .i64 p] w fun e w' => e = .returned (.bool true) ∧ Below w.heap.size w w' := by
  by_cases hp : 0 ≤ p ∧ p ≤ 2
  · have hp1 : 0 ≤ p := hp.1
    have hp2 : p ≤ 2 := hp.2
    have hp3 : ¬ p < 0 := by omega
    have hp4 : ¬ 2 < p := by omega
    have HP := Lib.hid hp; clear hp
    go_enter Try.func3, Try.ntmps3
    go_wp2_with fail
    refine (encode_eq b hb p _ 11 rfl (enc_length b p HP.out) _).mono ?_
    rintro e w1 ⟨A, c, rfl, _, hR, hb1⟩
    go_wp2_with fail
    refine (decode_eq _ 11 A c _ p b 0 true _ hR (dec_enc b hb p HP.out)).mono ?_
    rintro e w2 ⟨rfl, hb2⟩
    go_wp2_with fail
    refine (refEncode_eq b hb p _ 11 rfl (enc_length b p HP.out) _).mono ?_
    rintro e w3 ⟨A3, c3, rfl, _, hR3, hb3⟩
    go_wp2_with fail
    refine (same_eq _ _ 11 11 A A3 c c3 _ _ true _ ((hR.below hb2 (Nat.le_refl _)).below hb3 hb2.size) hR3 (by omega) (by simp)).mono ?_
    rintro e w4 ⟨rfl, hb4⟩
    go_wp2_with fail
    refine (awake_any _).mono ?_
    rintro e w5 ⟨rfl, hb5⟩
    go_wp2
    go_ret
    exact ⟨rfl, ext_trans (ext_trans (ext_trans (ext_trans hb1 hb2) hb3) hb4) hb5⟩
  · have he : encode b p = [] := by rw [encode, if_neg hp]
    have hd : decode [] p = (0, 0, false) := by rw [decode, if_neg (by simp)]
    have HE := Lib.hid he; clear he
    have HD := Lib.hid hd; clear hd
    rcases (show p < 0 ∨ 2 < p by omega) with hq | hq
    all_goals
      clear hp
      go_enter Try.func3, Try.ntmps3
      go_wp2_with fail
      refine (encode_eq b hb p _ 0 HE.out rfl _).mono ?_
      rintro e w1 ⟨A, c, rfl, _, hR, hb1⟩
      go_wp2_with fail
      refine (decode_eq _ 0 A c _ p 0 0 false _ hR HD.out).mono ?_
      rintro e w2 ⟨rfl, hb2⟩
      go_wp2_with fail
      refine (refEncode_eq b hb p _ 0 HE.out rfl _).mono ?_
      rintro e w3 ⟨A3, c3, rfl, _, hR3, hb3⟩
      go_wp2_with fail
      refine (same_eq _ _ 0 0 A A3 c c3 _ _ true _ ((hR.below hb2 (Nat.le_refl _)).below hb3 hb2.size) hR3 (by omega) (by simp)).mono ?_
      rintro e w4 ⟨rfl, hb4⟩
      go_wp2_with fail
      refine (awake_any _).mono ?_
      rintro e w5 ⟨rfl, hb5⟩
      go_wp2
      go_ret
      exact ⟨rfl, ext_trans (ext_trans (ext_trans (ext_trans hb1 hb2) hb3) hb4) hb5⟩

theorem roundI (b p : Int) (hb : (Lit.int .u8 b).wf = true) (w : World) : Calls Try.prog 3 #[.int .u8 b, .int .i64 p] w fun e w' => e = .returned (.bool true) ∧ Below w.heap.size w w' := by
  have h := wf_u8 hb
  obtain ⟨n, rfl⟩ := Int.eq_ofNat_of_zero_le h.1
  exact round_any n (by omega) p w

end Go.Proofs.Ytcpcbgemnfpfjaa

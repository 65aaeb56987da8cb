/- The laws UartDecode, UartMismatch, UartFlip as contracts. -/
import Derived.Test.YtcpcbgemnfpfjaaUartL
import Derived.Test.YtcpcbgemnfpfjaaOpen
set_option linter.unusedVariables false
set_option linter.unusedSimpArgs false
namespace Go.Proofs.Ytcpcbgemnfpfjaa
open Go.RowKit

theorem lawDecode_any (l : List Bool) (A : Option Addr) (c : Nat) (p : Int) (w : World) (hr : Rd w w.heap.size 1 A l.length (l.map Value.bool)) (hlc : l.length ≤ c) (hc : c ≤ maxLen) :
    Calls Try.prog 4 #[.slice A l.length c, .int .i64 p] w fun e w' => e = .returned (.bool true) ∧ Below w.heap.size w w' := by
  have key : ∀ l : List Bool, ∃ b f o, decode l p = (b, f, o) := fun l => ⟨_, _, _, rfl⟩
  unfold maxLen at hc
  by_cases h14 : l.length ≤ 14
  · obtain ⟨b, f, o, hd⟩ := key l
    have HD := Lib.hid hd; clear hd key
    have hr' : Rd w w.heap.size 1 A l.length (l.map Value.bool) := hr
    clear hr
    go_enter Try.func4, Try.ntmps4
    go_wp2_with fail
    refine (decode_eq _ _ A c _ p b f o _ hr' HD.out).mono ?_
    rintro e w1 ⟨rfl, hb1⟩
    go_wp2_with fail
    refine (refDecode_eq _ _ A c _ p b f o _ (hr'.below hb1 (Nat.le_refl _)) HD.out).mono ?_
    rintro e w2 ⟨rfl, hb2⟩
    go_wp2_with fail
    refine (awake_any _).mono ?_
    rintro e w3 ⟨rfl, hb3⟩
    go_wp2
    go_ret
    exact ⟨rfl, ext_trans (ext_trans hb1 hb2) hb3⟩
  · have h14' : ¬ l.length < 14 := by omega
    obtain ⟨b, f, o, hd⟩ := key (l.take 14)
    have HD := Lib.hid hd; clear hd key
    have hr' : Rd w w.heap.size 1 A 14 ((l.take 14).map Value.bool) := by rw [List.map_take]; exact hr.take (by omega)
    clear hr
    go_enter Try.func4, Try.ntmps4
    go_wp2_with fail
    refine (decode_eq _ _ A c _ p b f o _ hr' HD.out).mono ?_
    rintro e w1 ⟨rfl, hb1⟩
    go_wp2_with fail
    refine (refDecode_eq _ _ A c _ p b f o _ (hr'.below hb1 (Nat.le_refl _)) HD.out).mono ?_
    rintro e w2 ⟨rfl, hb2⟩
    go_wp2_with fail
    refine (awake_any _).mono ?_
    rintro e w3 ⟨rfl, hb3⟩
    go_wp2
    go_ret
    exact ⟨rfl, ext_trans (ext_trans hb1 hb2) hb3⟩

theorem decodeI (l : List Bool) (A : Option Addr) (c : Nat) (p : Int) (w : World) (hr : Rd w w.heap.size 1 A l.length (l.map fun x => [Value.bool x]).flatten) (hlc : l.length ≤ c) (hc : c ≤ maxLen) :
    Calls Try.prog 4 #[.slice A l.length c, .int .i64 p] w fun e w' => e = .returned (.bool true) ∧ Below w.heap.size w w' :=
  lawDecode_any l A c p w (by rwa [flatten_one] at hr) hlc hc

theorem mism (b : Nat) (hb : b ≤ 255) : decode (encode b 1) 2 = (b, 1, true) ∧ decode (encode b 2) 1 = (b, 1, true) := by
  have : ∀ b : Fin 256, decode (encode b 1) 2 = ((b : Nat), 1, true) ∧ decode (encode b 2) 1 = ((b : Nat), 1, true) := by decide +kernel
  exact this ⟨b, by omega⟩
theorem mismatchI (b : Int) (odd : Bool) (hb : (Lit.int .u8 b).wf = true) (w : World) : Calls Try.prog 6 #[.int .u8 b, .bool odd] w fun e w' => e = .returned (.bool true) ∧ Below w.heap.size w w' := by
  have h := wf_u8 hb
  obtain ⟨n, rfl⟩ := Int.eq_ofNat_of_zero_le h.1
  have hn : n ≤ 255 := by omega
  clear hb h
  cases odd
  · go_enter Try.func6, Try.ntmps6
    go_wp2_with fail
    refine (encode_eq n hn 1 _ 11 rfl (enc_length n 1 (by omega)) _).mono ?_
    rintro e w1 ⟨A, c, rfl, _, hR, hb1⟩
    go_wp2_with fail
    refine (decode_eq _ _ A c _ 2 n 1 true _ hR (mism n hn).1).mono ?_
    rintro e w2 ⟨rfl, hb2⟩
    go_wp2_with fail
    refine (awake_any _).mono ?_
    rintro e w3 ⟨rfl, hb3⟩
    go_wp2
    go_ret
    exact ⟨rfl, ext_trans (ext_trans hb1 hb2) hb3⟩
  · go_enter Try.func6, Try.ntmps6
    go_wp2_with fail
    refine (encode_eq n hn 2 _ 11 rfl (enc_length n 2 (by omega)) _).mono ?_
    rintro e w1 ⟨A, c, rfl, _, hR, hb1⟩
    go_wp2_with fail
    refine (decode_eq _ _ A c _ 1 n 1 true _ hR (mism n hn).2).mono ?_
    rintro e w2 ⟨rfl, hb2⟩
    go_wp2_with fail
    refine (awake_any _).mono ?_
    rintro e w3 ⟨rfl, hb3⟩
    go_wp2
    go_ret
    exact ⟨rfl, ext_trans (ext_trans hb1 hb2) hb3⟩

end Go.Proofs.Ytcpcbgemnfpfjaa

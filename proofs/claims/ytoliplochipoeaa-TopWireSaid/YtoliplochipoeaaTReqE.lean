/- Layer 10: contracts of Encode, the program's and the reference's. -/
import Derived.Test.YtoliplochipoeaaTReqV
import Derived.Test.YtoliplochipoeaaTReqV
import Derived.Test.YtoliplochipoeaaBytes
set_option linter.unusedVariables false
set_option linter.unusedSimpArgs false
namespace Go.Proofs.Ytoliplochipoeaa
open Go.RowKit

def encL (f a n c o : Int) : List Int := if f = 17 then [17] else if f = 43 then [43, 14, c, o] else [f, a / 256, a % 256, n / 256, n % 256]

theorem vq_cases {f a n c o : Int} (h : vq f a n c o = true) : (f = 17 ∧ a = 0 ∧ n = 0 ∧ c = 0 ∧ o = 0) ∨ (f = 43 ∧ 1 ≤ c ∧ c ≤ 3 ∧ 0 ≤ o ∧ o ≤ 255 ∧ a = 0 ∧ n = 0) ∨ (1 ≤ f ∧ f ≤ 4 ∧ 0 ≤ a ∧ a ≤ 65535 ∧ 1 ≤ n ∧ n ≤ 2000 ∧ a ≤ 65536 - n ∧ c = 0 ∧ o = 0) := by
  have h := of_decide_eq_true h
  rcases h with ⟨h1, h2, h3, h4, h5, h6, h7, h8⟩ | h | h
  · have : limZ f ≤ 2000 := by unfold limZ; split
                               · decide
                               · split <;> decide
    exact .inr (.inr ⟨h1, h2, h3, by omega, h4, by omega, h6, h7, h8⟩)
  · exact .inl h
  · exact .inr (.inl h)

set_option maxRecDepth 100000 in
set_option maxHeartbeats 2000000 in
theorem enc_no (f a n c o : Int) (hv : vq f a n c o = false) (w : World) : Calls Try.prog 8 #[qv f a n c o] w fun e w' => e = .returned (.tuple #[.slice none 0 0, .int .i64 5]) ∧ Below w.heap.size w w' := by
  have hc : ∀ w, Calls Try.prog 22 #[qv f a n c o] w fun e w' => e = .returned (.bool false) ∧ Below w.heap.size w w' := fun w => hv ▸ qvalid_any f a n c o w
  have HC := Lib.hid hc; clear hc hv
  go_enter Try.func8, Try.ntmps8
  go_wp2_with fail
  refine (HC.out _).mono ?_
  rintro e w1 ⟨rfl, hb1⟩
  have hb := ext_alloc' (Below.refl _ w) (by simpa using hb1)
  clear hb1
  go_wp2
  go_ret2
  exact ⟨rfl, hb⟩

set_option maxRecDepth 100000 in
set_option maxHeartbeats 2000000 in
theorem enc_yes (f a n c o : Int) (hv : vq f a n c o = true) (w : World) : Calls Try.prog 8 #[qv f a n c o] w fun e w' => ∃ A m, e = .returned (.tuple #[.slice A m m, .int .i64 0]) ∧ m = (encL f a n c o).length ∧ Rd w' w'.heap.size 1 A m (by8 (encL f a n c o)) ∧ Below w.heap.size w w' := by
  have hc : ∀ w, Calls Try.prog 22 #[qv f a n c o] w fun e w' => e = .returned (.bool true) ∧ Below w.heap.size w w' := fun w => hv ▸ qvalid_any f a n c o w
  have HC := Lib.hid hc; clear hc
  rcases vq_cases hv with ⟨rfl, rfl, rfl, rfl, rfl⟩ | ⟨rfl, h1, h2, h3, h4, rfl, rfl⟩ | ⟨h1, h2, h3, h4, h5, h6, h7, rfl, rfl⟩
  · clear hv
    go_enter Try.func8, Try.ntmps8
    go_wp2_with fail
    refine (HC.out _).mono ?_
    rintro e w1 ⟨rfl, hb1⟩
    have hb := ext_alloc' (Below.refl _ w) (by simpa using hb1)
    obtain ⟨q1, _, l1⟩ := box_new hb1
    clear hb1
    go_wp2
    go_ret2
    exact ⟨_, _, rfl, rfl, Rd.lit rfl (by simp), ext_alloc' hb (Below.refl _ _)⟩
  · clear hv
    go_enter Try.func8, Try.ntmps8
    go_wp2_with fail
    refine (HC.out _).mono ?_
    rintro e w1 ⟨rfl, hb1⟩
    have hb := ext_alloc' (Below.refl _ w) (by simpa using hb1)
    obtain ⟨q1, _, l1⟩ := box_new hb1
    clear hb1
    go_wp2
    go_ret2
    exact ⟨_, _, rfl, rfl, Rd.lit rfl (by simp), ext_alloc' hb (Below.refl _ _)⟩
  · have hz : encL f a n 0 0 = [f, a / 256, a % 256, n / 256, n % 256] := by rw [encL, if_neg (by omega), if_neg (by omega)]
    rw [hz]
    have f17 : f ≠ 17 := by omega
    have f43 : f ≠ 43 := by omega
    clear hv hz
    go_enter Try.func8, Try.ntmps8
    go_wp2_with fail
    refine (HC.out _).mono ?_
    rintro e w1 ⟨rfl, hb1⟩
    have hb := ext_alloc' (Below.refl _ w) (by simpa using hb1)
    obtain ⟨q1, _, l1⟩ := box_new hb1
    clear hb1
    go_wp2
    go_ret2
    exact ⟨_, _, rfl, rfl, Rd.lit rfl (by simp), ext_alloc' hb (Below.refl _ _)⟩

end Go.Proofs.Ytoliplochipoeaa

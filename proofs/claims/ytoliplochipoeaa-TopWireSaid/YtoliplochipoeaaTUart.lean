/- Contracts of the functions of package uart (layer 7): possible, parityBit, Encode, Decode, Stream. -/
import Derived.Test.YtoliplochipoeaaRows
import Derived.Test.YtoliplochipoeaaLib
set_option linter.unusedVariables false
set_option linter.unusedSimpArgs false
namespace Go.Proofs.Ytoliplochipoeaa
open Go.RowKit

def bt (l : List Bool) (k : Nat) : Bool := l.getD k false
theorem bt_some (l : List Bool) (k : Nat) (h : k < l.length) : (l.map Value.bool)[k]? = some (.bool (bt l k)) := by simp [bt, List.getD, List.getElem?_eq_getElem h]
/-- The exclusive or of the bits of a byte. -/
def pb (n : Nat) : Bool := if n = 0 then false else ((n % 2 == 1) != pb (n / 2))
decreasing_by omega
def parity (b : Nat) (p : Int) : Bool := if p = 1 then pb b else if p = 2 then !pb b else true

theorem possible_any (p : Int) (w : World) : Calls Try.prog 25 #[.int .i64 p] w fun e w' => e = .returned (.bool (decide (0 ≤ p ∧ p ≤ 2))) ∧ w = w' := by
  go_enter Try.func25, Try.ntmps25
  go_wp2
  all_goals (go_ret; simp_all; try omega)

theorem pb_step (m : Nat) (h : m ≠ 0) : pb m = ((m % 2 == 1) != pb (m / 2)) := by rw [pb, if_neg h]
theorem pb_zero : pb 0 = false := by rw [pb]; rfl
theorem u8_and1 (m : Nat) (h : m ≤ 255) : bits BinOp.and IntKind.u8 (m : Int) 1 = ((m % 2 : Nat) : Int) := by
  have : ∀ m : Fin 256, bits BinOp.and IntKind.u8 ((m : Nat) : Int) 1 = (((m : Nat) % 2 : Nat) : Int) := by decide +kernel
  exact this ⟨m, by omega⟩
theorem beq_nat_int (a b : Nat) : (((a : Nat) : Int) == ((b : Nat) : Int)) = (a == b) := by rw [Bool.eq_iff_iff]; simp; omega

theorem parityBit_any (b : Nat) (hb : b ≤ 255) (p : Int) (w : World) : Calls Try.prog 26 #[.int .u8 b, .int .i64 p] w fun e w' => e = .returned (.bool (parity b p)) ∧ w = w' := by
  go_enter Try.func26, Try.ntmps26
  go_wp2
  go_loop [0, 5] (fun x o => ∃ (m : Nat) (q : Bool), m ≤ 255 ∧ x = .int .u8 m ∧ o = .bool q ∧ (q != pb m) = pb b) (fun x _ => (intOf x).toNat)
  case atStart => exact ⟨b, false, hb, rfl, rfl, by simp⟩
  case round =>
    obtain ⟨m, q, hm, rfl, rfl, hrel⟩ := hrel
    have H := Lib.hid hrel; clear hrel
    go_wp2
    · have hne : m ≠ 0 := by have := ‹((m : Int) != 0) = true›; simp at this; exact this
      refine ⟨⟨m / 2, _, by omega, by simp, rfl, ?_⟩, by simp [intOf]; omega⟩
      rw [u8_and1 m hm, ← H.out, pb_step m hne, show ((1 : Int)) = ((1 : Nat) : Int) from rfl, beq_nat_int]
      generalize (m % 2 == 1) = x; generalize pb (m / 2) = y
      cases q <;> cases x <;> cases y <;> rfl
    all_goals
      have hz : m = 0 := by have := ‹((m : Int) != 0) = false›; simp at this; exact this
      have hq : q = pb b := by rw [← H.out, hz, pb_zero]; simp
      go_ret
      refine ⟨?_, rfl⟩
      subst hq
      simp_all [parity]

/-- The bits of a byte from bit 0 on. -/
def bitsOf (b : Nat) (k : Nat) : List Bool := (List.range k).map fun i => b.testBit i
def encode (b : Nat) (p : Int) : List Bool := if 0 ≤ p ∧ p ≤ 2 then false :: (bitsOf b 8 ++ [parity b p, true]) else []
theorem bitsOf_succ (b k : Nat) : bitsOf b (k + 1) = bitsOf b k ++ [b.testBit k] := by simp [bitsOf, List.range_succ]
theorem bitsOf_length (b k : Nat) : (bitsOf b k).length = k := by simp [bitsOf]
theorem bit_u8 (b k : Nat) (hb : b ≤ 255) : (bits BinOp.and IntKind.u8 ((b : Int) / 2 ^ k) 1 == 1) = b.testBit k := by
  have h2 : b / 2 ^ k ≤ b := Nat.div_le_self _ _
  have e : (b : Int) / 2 ^ k = ((b / 2 ^ k : Nat) : Int) := by simp
  rw [e, u8_and1 _ (by omega), show ((1 : Int)) = ((1 : Nat) : Int) from rfl, beq_nat_int, Nat.testBit_eq_decide_div_mod_eq]
  rfl
theorem boolInfo : (Try.prog.info? 4).map (fun i => (i.zero, i.size, i.bytes)) = some (some (.bool false), 1, 1) := by kernel_rfl

set_option maxHeartbeats 400000 in
theorem encode_any (b : Nat) (hb : b ≤ 255) (p : Int) (w : World) : Calls Try.prog 10 #[.int .u8 b, .int .i64 p] w fun e w' =>
    ∃ v, e = .returned v ∧ w'.ownsRow w.heap.size 4 1 v (encode b p).length ((encode b p).map Value.bool) ∧ Below w.heap.size w w' := by
  by_cases hp : 0 ≤ p ∧ p ≤ 2
  · have hd : decide (0 ≤ p ∧ p ≤ 2) = true := by simpa using hp
    go_enter Try.func10, Try.ntmps10
    go_wp2_with (go_at_call 25; refine (possible_any _ _).mono ?_; rintro e w' ⟨rfl, rfl⟩)
    go_loopw [5, 11] (fun v i wr => ∃ k : Nat, k ≤ 8 ∧ i = .int .i64 k ∧ wr.ownsRow w.heap.size 4 1 v (k + 1) ((false :: bitsOf b k).map Value.bool) ∧ Below w.heap.size w wr) (fun _ i _ => 8 - (intOf i).toNat)
    case atStart => exact ⟨0, by omega, rfl, World.ownsRow_lit _ _ 1 (Nat.le_refl _) (by simp [maxLen]) rfl, (Below.refl _ _).alloc (Nat.le_refl _) _⟩
    case round =>
      obtain ⟨k, hk, rfl, hown, hbel⟩ := hrel
      have hsz := hbel.size
      by_cases hlt : k < 8
      · go_wp2_with (at_builtin; refine wpList_app (.tmp 14) (.tmp 20) 35 w.heap.size 4 _ 1 1 _ (k + 1) 1 1 _ Try.underlying35 boolInfo rfl (by decide) rfl rfl rfl rfl hown rfl (by simp [Value.oneCell']) (by omega) (by omega) hsz ?_; intro v1 w1 hown1 hg1 hb1)
        refine ⟨⟨k + 1, by omega, by go_num, ?_, hbel.trans hb1⟩, by simp [intOf]; omega⟩
        rw [bitsOf_succ]
        rw [bit_u8 b k hb] at hown1
        simpa using hown1
      · obtain rfl : k = 8 := by omega
        go_wp2_with (first
          | (go_at_call 26; refine (parityBit_any b hb _ _).mono ?_; rintro e w' ⟨rfl, rfl⟩)
          | (at_builtin; refine wpList_app (.tmp 23) (.tmp 27) 35 w.heap.size 4 _ 1 1 _ 9 2 2 _ Try.underlying35 boolInfo rfl (by decide) rfl rfl rfl rfl hown rfl (by simp [Value.oneCell']) (by omega) (by omega) hsz ?_; intro v1 w1 hown1 hg1 hb1))
        go_ret
        refine ⟨_, rfl, ?_, hbel.trans hb1⟩
        simpa [encode, hp, bitsOf_length] using hown1
  · have hd : decide (0 ≤ p ∧ p ≤ 2) = false := by simpa using hp
    go_enter Try.func10, Try.ntmps10
    go_wp2_with (go_at_call 25; refine (possible_any _ _).mono ?_; rintro e w' ⟨rfl, rfl⟩)
    go_ret
    refine ⟨_, rfl, ?_, Below.refl _ _⟩
    rw [encode, if_neg hp]
    exact World.ownsRow_nil _ _ _ _

end Go.Proofs.Ytoliplochipoeaa

/- Contracts of package uart: Decode. -/
import Derived.Test.YtoliplochipoeaaTUart
set_option linter.unusedVariables false
set_option linter.unusedSimpArgs false
namespace Go.Proofs.Ytoliplochipoeaa
open Go.RowKit

/-- The byte of the first k bits behind the start bit. -/
def byteOf (l : List Bool) : Nat → Nat
  | 0 => 0
  | k + 1 => byteOf l k + (if bt l (1 + k) then 2 ^ k else 0)
theorem byteOf_lt (l : List Bool) (k : Nat) : byteOf l k < 2 ^ k := by
  induction k with
  | zero => simp [byteOf]
  | succ k ih => rw [byteOf, Nat.pow_succ]; split <;> omega
def flags3 (p : Int) (x y z : Bool) : Int :=
  let f : Int := if x != y then (if p = 0 then 2 else 1) else 0
  if z then f else if f = 1 then 3 else 2
def flagsOf (l : List Bool) (p : Int) : Int := flags3 p (bt l 9) (parity (byteOf l 8) p) (bt l 10)
def decode (l : List Bool) (p : Int) : Nat × Int × Bool :=
  if l.length = 11 ∧ bt l 0 = false ∧ 0 ≤ p ∧ p ≤ 2 then (byteOf l 8, flagsOf l p, true) else (0, 0, false)

theorem or_u8 (m k : Nat) (hk : k < 8) (hm : m < 2 ^ k) : bits BinOp.or IntKind.u8 (m : Int) (IntKind.u8.wrap (2 ^ k)) = ((m + 2 ^ k : Nat) : Int) := by
  have : ∀ k : Fin 8, ∀ m : Fin 128, (m : Nat) < 2 ^ (k : Nat) → bits BinOp.or IntKind.u8 ((m : Nat) : Int) (IntKind.u8.wrap (2 ^ (k : Nat))) = (((m : Nat) + 2 ^ (k : Nat) : Nat) : Int) := by decide +kernel
  exact this ⟨k, hk⟩ ⟨m, by have : 2 ^ k ≤ 2 ^ 7 := Nat.pow_le_pow_right (by decide) (by omega); omega⟩ hm

theorem or02 : bits BinOp.or IntKind.i64 0 2 = 2 := by decide +kernel
theorem or22 : bits BinOp.or IntKind.i64 2 2 = 2 := by decide +kernel
theorem or01 : bits BinOp.or IntKind.i64 0 1 = 1 := by decide +kernel
theorem or12 : bits BinOp.or IntKind.i64 1 2 = 3 := by decide +kernel
theorem parityBit_eq (b : Nat) (hb : b ≤ 255) (p : Int) (y : Bool) (hy : parity b p = y) (w : World) : Calls Try.prog 26 #[.int .u8 b, .int .i64 p] w fun e w' => e = .returned (.bool y) ∧ w = w' := by
  subst hy; exact parityBit_any b hb p w
set_option maxHeartbeats 400000 in
theorem decode_any (l : List Bool) (A : Option Addr) (c B : Nat) (p : Int) (w : World) (hr : Rd w B 1 A l.length (l.map Value.bool)) :
    Calls Try.prog 28 #[.slice A l.length c, .int .i64 p] w fun e w' =>
    e = .returned (.tuple #[.int .u8 (decode l p).1, .int .i64 (decode l p).2.1, .bool (decode l p).2.2]) ∧ ∃ n, w' = w.drewN n := by
  by_cases hn : l.length = 11
  · obtain ⟨b, off, rfl, _, hc⟩ := hr.2 (by omega)
    have hcell : ∀ j, j < 11 → w.cell? ⟨b, off + j, none⟩ = some (.bool (bt l j)) := fun j hj => hc j _ (by simp [bt, List.getD, List.getElem?_eq_getElem (show j < l.length by omega)])
    clear hc hr
    have h0 : w.cell? ⟨b, off, none⟩ = some (.bool (bt l 0)) := hcell 0 (by omega)
    by_cases hz : bt l 0 = true
    · rw [hz] at h0
      have he : decode l p = (0, 0, false) := by rw [decode, if_neg (by rw [hz]; simp)]
      have HE := Lib.hid he; clear he hz hcell
      rw [hn]
      clear hn
      go_enter Try.func28, Try.ntmps28
      go_wp2
      go_ret3
      rw [HE.out]
      exact ⟨rfl, 0, rfl⟩
    · have hz' : bt l 0 = false := by simpa using hz
      rw [hz'] at h0
      by_cases hp : 0 ≤ p ∧ p ≤ 2
      · have hd : decide (0 ≤ p ∧ p ≤ 2) = true := by simpa using hp
        have h9 := hcell 9 (by omega)
        have h10 := hcell 10 (by omega)
        have he : decode l p = (byteOf l 8, flagsOf l p, true) := by rw [decode, if_pos ⟨hn, hz', hp⟩]
        have HE := Lib.hid he; clear he
        have HC := Lib.hid hcell; clear hcell
        clear hz
        have HZ := Lib.hid hz'; clear hz'
        rw [hn]
        clear hn
        go_enter Try.func28, Try.ntmps28
        go_wp2_with (go_at_call 25; refine (possible_any _ _).mono ?_; rintro e w' ⟨rfl, rfl⟩)
        go_loop [4, 21] (fun x i => ∃ k : Nat, k ≤ 8 ∧ i = .int .i64 k ∧ x = .int .u8 (byteOf l k)) (fun _ i => 8 - (intOf i).toNat)
        case atStart => exact ⟨0, by omega, rfl, rfl⟩
        case round =>
          obtain ⟨k, hk, rfl, rfl⟩ := hrel
          by_cases hlt : k < 8
          · have hk1 := HC.out (1 + k) (by omega)
            have hb := byteOf_lt l k
            by_cases hv : bt l (1 + k) = true
            · have hs : byteOf l (k + 1) = byteOf l k + 2 ^ k := by rw [byteOf, if_pos hv]
              have HS := Lib.hid hs; clear hs
              rw [hv] at hk1
              clear hv
              go_wp2
              refine ⟨⟨k + 1, by omega, by go_num, ?_⟩, by simp [intOf]; omega⟩
              rw [HS.out, ← or_u8 _ _ hlt hb]
              simp [IntKind.wrap_u8]
            · have hv' : bt l (1 + k) = false := by simpa using hv
              have hs : byteOf l (k + 1) = byteOf l k := by rw [byteOf, if_neg hv]; rfl
              have HS := Lib.hid hs; clear hs
              rw [hv'] at hk1
              clear hv hv'
              go_wp2
              refine ⟨⟨k + 1, by omega, by go_num, ?_⟩, by simp [intOf]; omega⟩
              rw [HS.out]
          · obtain rfl : k = 8 := by omega
            have hb := byteOf_lt l 8
            obtain ⟨y, hy⟩ : ∃ y, parity (byteOf l 8) p = y := ⟨_, rfl⟩
            have hpb := fun w => parityBit_eq (byteOf l 8) (by omega) p y hy w
            have HY := Lib.hid hy; clear hy
            obtain ⟨x, hx⟩ : ∃ x, bt l 9 = x := ⟨_, rfl⟩
            rw [hx] at h9
            have HX := Lib.hid hx; clear hx
            obtain ⟨z, hz⟩ : ∃ z, bt l 10 = z := ⟨_, rfl⟩
            rw [hz] at h10
            have HZ' := Lib.hid hz; clear hz
            have HP := Lib.hid hpb; clear hpb
            rcases Decidable.em (p = 0) with ep | ep
            · have ep' : (p == 0) = true := by simpa using ep
              have EP := Lib.hid ep; clear ep
              cases x <;> cases y <;> cases z
              all_goals
                go_wp2
                go_quiet ((go_at_call 26; exact quiet_left (HP.out _)))
                go_wp2
                go_ret3
                rw [HE.out, flagsOf, HX.out, HY.out, HZ'.out]
                exact ⟨by simp [flags3, EP.out, or02, or22, or01, or12], _, rfl⟩
            · have ep' : (p == 0) = false := by simpa using ep
              have EP := Lib.hid ep; clear ep
              cases x <;> cases y <;> cases z
              all_goals
                go_wp2
                go_quiet ((go_at_call 26; exact quiet_left (HP.out _)))
                go_wp2
                go_ret3
                rw [HE.out, flagsOf, HX.out, HY.out, HZ'.out]
                exact ⟨by simp [flags3, EP.out, or02, or22, or01, or12], _, rfl⟩
      · have hd : decide (0 ≤ p ∧ p ≤ 2) = false := by simpa using hp
        have he : decode l p = (0, 0, false) := by rw [decode, if_neg (by intro h; exact hp h.2.2)]
        have HE := Lib.hid he; clear he
        clear hz hcell
        have HZ := Lib.hid hz'; clear hz'
        rw [hn]
        clear hn
        go_enter Try.func28, Try.ntmps28
        go_wp2_with (go_at_call 25; refine (possible_any _ _).mono ?_; rintro e w' ⟨rfl, rfl⟩)
        go_ret3
        rw [HE.out]
        exact ⟨rfl, 0, rfl⟩
  · have he : decode l p = (0, 0, false) := by rw [decode, if_neg (by simp [hn])]
    have HE := Lib.hid he; clear he
    have hne : ((l.length : Int) != 11) = true := by simp; omega
    clear hn hr
    go_enter Try.func28, Try.ntmps28
    go_wp2
    go_ret3
    rw [HE.out]
    exact ⟨rfl, 0, rfl⟩

end Go.Proofs.Ytoliplochipoeaa

/- Contract of the reference's Decode (layer 7), and the example of the chapter. -/
import Derived.Test.YtcpcbgemnfpfjaaUartR
import Derived.Deep.RegionHeld3
import Derived.Deep.RegionWith
set_option linter.unusedVariables false
set_option linter.unusedSimpArgs false
namespace Go.Proofs.Ytcpcbgemnfpfjaa
open Go.RowKit

theorem refEncode_at9 (b : Nat) (hb : b ≤ 255) (p : Int) (hp : 0 ≤ p ∧ p ≤ 2) (w : World) : Calls Try.prog 12 #[.int .u8 b, .int .i64 p] w fun e w' =>
    ∃ g c, e = .returned (.slice (some ⟨g, 0, none⟩) 11 c) ∧ w'.cell? ⟨g, 9, none⟩ = some (.bool (parity b p)) ∧ Below w.heap.size w w' := by
  refine (refEncode_any b hb p w).mono ?_
  rintro e w' ⟨v, rfl, hown, hbel⟩
  have he : encode b p = false :: (bitsOf b 8 ++ [parity b p, true]) := by rw [encode, if_pos hp]
  have hl : (encode b p).length = 11 := by rw [he]; simp [bitsOf_length]
  rw [hl] at hown
  obtain ⟨g, cap, rfl, _, _⟩ := hown.form (by omega)
  refine ⟨g, cap, rfl, ?_, hbel⟩
  rw [hown.cellAt 9 (by omega), he]
  simp [bitsOf, List.range_succ]

theorem add_u8 (m k : Nat) (hk : k < 8) (hm : m < 2 ^ k) : IntKind.u8.wrap ((m : Int) + 2 ^ k % 256) = ((m + 2 ^ k : Nat) : Int) := by
  have : ∀ k : Fin 8, ∀ m : Fin 128, (m : Nat) < 2 ^ (k : Nat) → IntKind.u8.wrap (((m : Nat) : Int) + 2 ^ (k : Nat) % 256) = (((m : Nat) + 2 ^ (k : Nat) : Nat) : Int) := by decide +kernel
  exact this ⟨k, hk⟩ ⟨m, by have : 2 ^ k ≤ 2 ^ 7 := Nat.pow_le_pow_right (by decide) (by omega); omega⟩ hm

set_option maxHeartbeats 4000000 in
theorem refDecode_any (l : List Bool) (A : Option Addr) (c B : Nat) (p : Int) (w : World) (hr : Rd w B 1 A l.length (l.map Value.bool)) :
    Calls Try.prog 14 #[.slice A l.length c, .int .i64 p] w fun e w' =>
    e = .returned (.tuple #[.int .u8 (decode l p).1, .int .i64 (decode l p).2.1, .bool (decode l p).2.2]) ∧ Below w.heap.size w w' := by
  by_cases hn : l.length = 11
  · obtain ⟨b, off, rfl, _, hc⟩ := hr.2 (by omega)
    have hcell : ∀ j, j < 11 → w.cell? ⟨b, off + j, none⟩ = some (.bool (bt l j)) := fun j hj => hc j _ (bt_some l j (by omega))
    clear hc hr
    have h0 : w.cell? ⟨b, off, none⟩ = some (.bool (bt l 0)) := hcell 0 (by omega)
    by_cases hz : bt l 0 = true
    · rw [hz] at h0
      have he : decode l p = (0, 0, false) := by rw [decode, if_neg (by rw [hz]; simp)]
      have HE := Lib.hid he; clear he hz hcell
      rw [hn]
      clear hn
      go_enter Try.func14, Try.ntmps14
      go_wp2
      go_ret3
      rw [HE.out]
      exact ⟨rfl, Below.refl _ _⟩
    · have hz' : bt l 0 = false := by simpa using hz
      rw [hz'] at h0
      rcases (show p < 0 ∨ 2 < p ∨ p = 0 ∨ (1 ≤ p ∧ p ≤ 2) by omega) with hp | hp | hp | hp
      · have he : decode l p = (0, 0, false) := by rw [decode, if_neg (by omega)]
        have HE := Lib.hid he; clear he hz hz' hcell
        rw [hn]
        clear hn
        go_enter Try.func14, Try.ntmps14
        go_wp2
        go_ret3
        rw [HE.out]
        exact ⟨rfl, Below.refl _ _⟩
      · have he : decode l p = (0, 0, false) := by rw [decode, if_neg (by omega)]
        have HE := Lib.hid he; clear he hz hz' hcell
        rw [hn]
        clear hn
        go_enter Try.func14, Try.ntmps14
        go_wp2
        go_ret3
        rw [HE.out]
        exact ⟨rfl, Below.refl _ _⟩
      all_goals
        have he : decode l p = (byteOf l 8, flagsOf l p, true) := by rw [decode, if_pos ⟨hn, hz', by omega⟩]
        have HE := Lib.hid he; clear he hz hz'
        have h9 := hcell 9 (by omega)
        have h10 := hcell 10 (by omega)
        have HC := Lib.hid hcell; clear hcell
        rw [hn]
        clear hn
      · subst hp
        go_enter Try.func14, Try.ntmps14
        go_wp2
        go_loop [7, 9] (fun x i => ∃ k : Nat, k ≤ 8 ∧ i = .int .u64 k ∧ x = .int .u8 (byteOf l k)) (fun _ i => 8 - (intOf i).toNat)
        case atStart => exact ⟨0, by omega, rfl, rfl⟩
        case round =>
          obtain ⟨k, hk, rfl, rfl⟩ := hrel
          by_cases hlt : k < 8
          · have hk1 := HC.out (1 + k) (by omega)
            have hb := byteOf_lt l k
            by_cases hv : bt l (1 + k) = true
            · have hs : byteOf l (k + 1) = byteOf l k + 2 ^ k := by rw [byteOf, if_pos hv]
              have HS := Lib.hid hs; clear hs
              rw [hv] at hk1
              clear hv
              go_wp2
              refine ⟨⟨k + 1, by omega, by go_num, ?_⟩, by simp [intOf]; omega⟩
              rw [HS.out, ← add_u8 _ _ hlt hb]
              simp [IntKind.wrap_u8]
            · have hv' : bt l (1 + k) = false := by simpa using hv
              have hs : byteOf l (k + 1) = byteOf l k := by rw [byteOf, if_neg hv]; rfl
              have HS := Lib.hid hs; clear hs
              rw [hv'] at hk1
              clear hv hv'
              go_wp2
              refine ⟨⟨k + 1, by omega, by go_num, ?_⟩, by simp [intOf]; omega⟩
              rw [HS.out]
          · obtain rfl : k = 8 := by omega
            have hb := byteOf_lt l 8
            obtain ⟨x, hx⟩ : ∃ x, bt l 9 = x := ⟨_, rfl⟩
            rw [hx] at h9
            have HX := Lib.hid hx; clear hx
            obtain ⟨z, hz⟩ : ∃ z, bt l 10 = z := ⟨_, rfl⟩
            rw [hz] at h10
            have HZ' := Lib.hid hz; clear hz
            cases x <;> cases z
            all_goals
              go_wp2
              go_quiet (fail)
              go_wp2
              go_ret3
              rw [HE.out, flagsOf, HX.out, HZ'.out, show parity (byteOf l 8) 0 = true from rfl]
              exact ⟨by simp [flags3], below_drewN (Below.refl _ _) _⟩
      · obtain ⟨hp1, hp2⟩ := hp
        have hp0 : (p == 0) = false := by simp; omega
        have hp0' : (p != 0) = true := by simp; omega
        have hp3 : ¬ 2 < p := by omega
        have hp4 : ¬ p < 0 := by omega
        go_enter Try.func14, Try.ntmps14
        go_wp2
        go_loop [7, 9] (fun x i => ∃ k : Nat, k ≤ 8 ∧ i = .int .u64 k ∧ x = .int .u8 (byteOf l k)) (fun _ i => 8 - (intOf i).toNat)
        case atStart => exact ⟨0, by omega, rfl, rfl⟩
        case round =>
          obtain ⟨k, hk, rfl, rfl⟩ := hrel
          by_cases hlt : k < 8
          · have hk1 := HC.out (1 + k) (by omega)
            have hb := byteOf_lt l k
            by_cases hv : bt l (1 + k) = true
            · have hs : byteOf l (k + 1) = byteOf l k + 2 ^ k := by rw [byteOf, if_pos hv]
              have HS := Lib.hid hs; clear hs
              rw [hv] at hk1
              clear hv
              go_wp2
              refine ⟨⟨k + 1, by omega, by go_num, ?_⟩, by simp [intOf]; omega⟩
              rw [HS.out, ← add_u8 _ _ hlt hb]
              simp [IntKind.wrap_u8]
            · have hv' : bt l (1 + k) = false := by simpa using hv
              have hs : byteOf l (k + 1) = byteOf l k := by rw [byteOf, if_neg hv]; rfl
              have HS := Lib.hid hs; clear hs
              rw [hv'] at hk1
              clear hv hv'
              go_wp2
              refine ⟨⟨k + 1, by omega, by go_num, ?_⟩, by simp [intOf]; omega⟩
              rw [HS.out]
          · obtain rfl : k = 8 := by omega
            have hb := byteOf_lt l 8
            obtain ⟨y, hy⟩ : ∃ y, parity (byteOf l 8) p = y := ⟨_, rfl⟩
            have hpb := fun w => refEncode_at9 (byteOf l 8) (by omega) p (by omega) w
            rw [hy] at hpb
            have HP := Lib.hid hpb; clear hpb
            have HY := Lib.hid hy; clear hy
            obtain ⟨x, hx⟩ : ∃ x, bt l 9 = x := ⟨_, rfl⟩
            rw [hx] at h9
            have HX := Lib.hid hx; clear hx
            obtain ⟨z, hz⟩ : ∃ z, bt l 10 = z := ⟨_, rfl⟩
            rw [hz] at h10
            have HZ' := Lib.hid hz; clear hz
            have hblt : b < w.heap.size := World.block_lt_of_cell? _ _ h9
            clear HC
            cases z
            all_goals
              go_wp2
              go_region_with (go_at_call 12; refine (HP.out _).mono ?_; rintro e w' ⟨g, cg, rfl, hg, hbg⟩; have q1 : w'.cell? ⟨b, off + 9, none⟩ = some (.bool x) := (hbg.cell (p := ⟨b, off + 9, none⟩) hblt).trans h9; have q2 : Below w.heap.size w w' := (Below.refl _ w).drew.trans hbg)
              all_goals (clear HP; cases x <;> cases y)
              all_goals go_wp2
              all_goals go_ret3
              all_goals
                rw [HE.out, flagsOf, HX.out, HY.out, HZ'.out]
                exact ⟨by simp [flags3, show ¬ p = 0 by omega], q2⟩
  · have he : decode l p = (0, 0, false) := by rw [decode, if_neg (by simp [hn])]
    have HE := Lib.hid he; clear he
    have hne : ((l.length : Int) != 11) = true := by simp; omega
    clear hn hr
    go_enter Try.func14, Try.ntmps14
    go_wp2
    go_ret3
    rw [HE.out]
    exact ⟨rfl, Below.refl _ _⟩

end Go.Proofs.Ytcpcbgemnfpfjaa

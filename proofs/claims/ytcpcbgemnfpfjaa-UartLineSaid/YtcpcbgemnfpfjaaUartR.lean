/- Contracts of the reference's functions for characters (layer 7): ones, Encode, Decode; of the law's own 'same'. -/
import Derived.Test.YtcpcbgemnfpfjaaUartD
set_option linter.unusedVariables false
set_option linter.unusedSimpArgs false
namespace Go.Proofs.Ytcpcbgemnfpfjaa
open Go.RowKit

def onesOf (l : List Bool) (k : Nat) : Nat := ((l.take k).filter id).length
theorem onesOf_succ (l : List Bool) (k : Nat) (h : k < l.length) : onesOf l (k + 1) = onesOf l k + (if bt l k then 1 else 0) := by
  unfold onesOf
  rw [List.take_succ_eq_append_getElem h, List.filter_append]
  have : bt l k = l[k] := by simp [bt, List.getD, List.getElem?_eq_getElem h]
  rw [this]
  cases l[k] <;> simp

theorem ones_any (l : List Bool) (A : Option Addr) (c B : Nat) (w : World) (hr : Rd w B 1 A l.length (l.map Value.bool)) (hm : l.length ≤ 1000000) :
    Calls Try.prog 21 #[.slice A l.length c] w fun e w' => e = .returned (.int .i64 (onesOf l l.length)) ∧ w = w' := by
  have hc : ∀ k, k < l.length → ∃ b off, A = some ⟨b, off, none⟩ ∧ w.cell? ⟨b, off + k, none⟩ = some (.bool (bt l k)) := fun k hk => by
    obtain ⟨b, off, e, _, hc⟩ := hr.2 (by omega)
    exact ⟨b, off, e, hc k _ (bt_some l k hk)⟩
  have HC := Lib.hid hc; clear hc hr
  go_enter Try.func21, Try.ntmps21
  go_wp2
  go_loop [3, 4] (fun n i => ∃ k : Nat, k ≤ l.length ∧ i = .int .i64 k ∧ n = .int .i64 (onesOf l k)) (fun _ i => l.length - (intOf i).toNat)
  case atStart => exact ⟨0, by omega, rfl, by simp [onesOf]⟩
  case round =>
    obtain ⟨k, hk, rfl, rfl⟩ := hrel
    have ho : onesOf l k ≤ k := by unfold onesOf; exact Nat.le_trans (List.length_filter_le _ _) (List.length_take_le _ _)
    by_cases hlt : k < l.length
    · obtain ⟨b, off, rfl, hcell⟩ := HC.out k hlt
      have hs := onesOf_succ l k hlt
      obtain ⟨x, hx⟩ : ∃ x, bt l k = x := ⟨_, rfl⟩
      rw [hx] at hs hcell
      have HS := Lib.hid hs; clear hs hx
      cases x
      all_goals
        go_wp2
        refine ⟨⟨k + 1, by omega, by go_num, ?_⟩, by simp [intOf]; omega⟩
        rw [HS.out]
        simp
    · obtain rfl : k = l.length := by omega
      go_wp2
      go_ret
      exact ⟨rfl, rfl⟩

theorem ones_bits (b : Nat) (hb : b ≤ 255) : (onesOf (false :: bitsOf b 8) 9) % 2 = if pb b then 1 else 0 := by
  have : ∀ b : Fin 256, (onesOf (false :: bitsOf b 8) 9) % 2 = if pb b then 1 else 0 := by decide +kernel
  exact this ⟨b, by omega⟩

set_option maxHeartbeats 400000 in
theorem refEncode_any (b : Nat) (hb : b ≤ 255) (p : Int) (w : World) : Calls Try.prog 12 #[.int .u8 b, .int .i64 p] w fun e w' =>
    ∃ v, e = .returned v ∧ w'.ownsRow w.heap.size 4 1 v (encode b p).length ((encode b p).map Value.bool) ∧ Below w.heap.size w w' := by
  by_cases hp : 0 ≤ p ∧ p ≤ 2
  · have he : encode b p = false :: (bitsOf b 8 ++ [parity b p, true]) := by rw [encode, if_pos hp]
    have HE := Lib.hid he; clear he
    have hp1 : 0 ≤ p := hp.1
    have hp2 : p ≤ 2 := hp.2
    clear hp
    go_enter Try.func12, Try.ntmps12
    go_wp2
    go_loopw [5, 6] (fun v i wr => ∃ k : Nat, k ≤ 8 ∧ i = .int .u64 k ∧ wr.ownsRow w.heap.size 4 1 v (k + 1) ((false :: bitsOf b k).map Value.bool) ∧ Below w.heap.size w wr) (fun _ i _ => 8 - (intOf i).toNat)
    case atStart => exact ⟨0, by omega, rfl, World.ownsRow_lit _ _ 1 (Nat.le_refl _) (by simp [maxLen]) rfl, (Below.refl _ _).alloc (Nat.le_refl _) _⟩
    case round =>
      obtain ⟨k, hk, rfl, hown, hbel⟩ := hrel
      have hsz := hbel.size
      by_cases hlt : k < 8
      · go_wp2_with (at_builtin; refine wpList_app (.tmp 19) (.tmp 25) 22 w.heap.size 4 _ 1 1 _ (k + 1) 1 1 _ Try.underlying22 boolInfo rfl (by decide) rfl rfl rfl rfl hown rfl (by simp [Value.oneCell']) (by omega) (by omega) hsz ?_; intro v1 w1 hown1 hg1 hb1)
        refine ⟨⟨k + 1, by omega, by go_num, ?_, hbel.trans hb1⟩, by simp [intOf]; omega⟩
        rw [bitsOf_succ]
        rw [bit_u8 b k hb] at hown1
        simpa using hown1
      · obtain rfl : k = 8 := by omega
        obtain ⟨A, c, rfl, _, hR⟩ := own_form hown
        have hl : (false :: bitsOf b 8).length = 9 := by simp [bitsOf_length]
        have ho := ones_any (false :: bitsOf b 8) A c _ wr (by rw [hl]; exact hR) (by omega)
        rw [hl] at ho
        have ho2 := ones_bits b hb
        obtain ⟨m, hm⟩ : ∃ m, onesOf (false :: bitsOf b 8) 9 = m := ⟨_, rfl⟩
        rw [hm] at ho ho2
        have HO := Lib.hid ho; clear ho
        have hm1 : ((m : Int) % 2 != 0) = parity b 1 := by
          have e : parity b 1 = pb b := rfl
          rw [e]; cases hq : pb b <;> rw [hq] at ho2 <;> simp at ho2 ⊢ <;> omega
        have hm2 : ((m : Int) % 2 != 1) = parity b 2 := by
          have e : parity b 2 = !pb b := rfl
          rw [e]; cases hq : pb b <;> rw [hq] at ho2 <;> simp at ho2 ⊢ <;> omega
        have HM1 := Lib.hid hm1; have HM2 := Lib.hid hm2; clear ho2 hm hl hm1 hm2
        have h3 : p = 0 ∨ p = 1 ∨ p = 2 := by omega
        have fin : ∀ (v' : Value) (w' : World), w'.ownsRow w.heap.size 4 1 v' (9 + 2) ((false :: bitsOf b 8).map Value.bool ++ [.bool (parity b p), .bool true]) → w'.ownsRow w.heap.size 4 1 v' (encode b p).length ((encode b p).map Value.bool) := by
          intro v' w' h
          rw [HE.out]
          simpa [bitsOf_length] using h
        have FIN := Lib.hid fin; clear fin
        rcases h3 with rfl | rfl | rfl
        all_goals
          go_wp2_with (first
            | (go_at_call 21; refine HO.out.mono ?_; rintro e w' ⟨rfl, rfl⟩)
            | (at_builtin; refine wpList_app (.tmp 35) (.tmp 37) 22 w.heap.size 4 _ 1 1 _ 9 2 2 _ Try.underlying22 boolInfo rfl (by decide) rfl rfl rfl rfl hown rfl (by simp [Value.oneCell']) (by omega) (by omega) hsz ?_; intro v1 w1 hown1 hg1 hb1))
          go_ret
          refine ⟨_, rfl, FIN.out _ _ ?_, hbel.trans hb1⟩
          clear FIN
          first
          | exact hown1
          | (rw [HM1.out] at hown1; exact hown1)
          | (rw [HM2.out] at hown1; exact hown1)
  · have he : encode b p = [] := by rw [encode, if_neg hp]
    have HE := Lib.hid he; clear he
    rcases Int.lt_or_le p 0 with h | h
    · clear hp
      go_enter Try.func12, Try.ntmps12
      go_wp2
      go_ret
      refine ⟨_, rfl, ?_, Below.refl _ _⟩
      rw [HE.out]
      exact World.ownsRow_nil _ _ _ _
    · have h' : 2 < p := by omega
      clear hp
      go_enter Try.func12, Try.ntmps12
      go_wp2
      go_ret
      refine ⟨_, rfl, ?_, Below.refl _ _⟩
      rw [HE.out]
      exact World.ownsRow_nil _ _ _ _

theorem same_list (a b : List Bool) (hl : a.length = b.length) (k : Nat) (hk : k < a.length) (h : a.take k = b.take k) : (a.take (k + 1) = b.take (k + 1)) ↔ bt a k = bt b k := by
  have hk' : k < b.length := hl ▸ hk
  rw [List.take_succ_eq_append_getElem hk, List.take_succ_eq_append_getElem hk', h, List.append_cancel_left_eq]
  simp [bt, List.getD, List.getElem?_eq_getElem hk, List.getElem?_eq_getElem (hl ▸ hk)]

theorem same_any (a b : List Bool) (A A' : Option Addr) (c c' B B' : Nat) (w : World) (hr : Rd w B 1 A a.length (a.map Value.bool)) (hr' : Rd w B' 1 A' b.length (b.map Value.bool)) (hm : a.length ≤ 1000000) :
    Calls Try.prog 11 #[.slice A a.length c, .slice A' b.length c'] w fun e w' => e = .returned (.bool (decide (a = b))) ∧ ∃ n, w' = w.drewN n := by
  by_cases hl : a.length = b.length
  · have hc : ∀ k, k < a.length → ∃ g off g' off', A = some ⟨g, off, none⟩ ∧ A' = some ⟨g', off', none⟩ ∧ w.cell? ⟨g, off + k, none⟩ = some (.bool (bt a k)) ∧ w.cell? ⟨g', off' + k, none⟩ = some (.bool (bt b k)) := fun k hk => by
      obtain ⟨g, off, e, _, hc⟩ := hr.2 (by omega)
      obtain ⟨g', off', e', _, hc'⟩ := hr'.2 (by omega)
      exact ⟨g, off, g', off', e, e', hc k _ (bt_some a k hk), hc' k _ (bt_some b k (by omega))⟩
    have HC := Lib.hid hc; clear hc hr hr'
    rw [← hl]
    have HL := Lib.hid hl; clear hl
    go_enter Try.func11, Try.ntmps11
    go_wp2
    go_loopw [5] (fun i wr => ∃ k : Nat, k ≤ a.length ∧ i = .int .i64 k ∧ a.take k = b.take k ∧ ∃ n, wr = w.drewN n) (fun i _ => a.length - (intOf i).toNat)
    case atStart => exact ⟨0, by omega, rfl, rfl, 0, rfl⟩
    case round =>
      obtain ⟨k, hk, rfl, htk, n, rfl⟩ := hrel
      have HT := Lib.hid htk; clear htk
      by_cases hlt : k < a.length
      · obtain ⟨g, off, g', off', rfl, rfl, h1, h2⟩ := HC.out k hlt
        have hs := same_list a b HL.out k hlt HT.out
        obtain ⟨x, hx⟩ : ∃ x, bt a k = x := ⟨_, rfl⟩
        obtain ⟨y, hy⟩ : ∃ y, bt b k = y := ⟨_, rfl⟩
        rw [hx] at h1
        rw [hy] at h2
        rw [hx, hy] at hs
        clear hx hy
        by_cases hxy : x = y
        · have hs' := hs.2 hxy
          have HS := Lib.hid hs'; clear hs hs'
          subst hxy
          cases x
          all_goals
            go_wp2
            go_quiet (fail)
            go_wp2
            exact ⟨⟨k + 1, by omega, by go_num, HS.out, _, rfl⟩, by simp [intOf]; omega⟩
        · have hne : a ≠ b := fun e => hxy (hs.1 (by rw [e]))
          have HNE := Lib.hid hne; clear hne hs
          cases x <;> cases y
          all_goals first
            | exact absurd rfl hxy
            | (clear hxy
               go_wp2
               go_quiet (fail)
               go_wp2
               go_ret
               exact ⟨by simp [HNE.out], _, World.drewN_drewN _ _ _⟩)
      · obtain rfl : k = a.length := by omega
        have hab : a = b := by have := HT.out; rwa [List.take_of_length_le (Nat.le_refl _), List.take_of_length_le (by rw [HL.out]; exact Nat.le_refl _)] at this
        have HAB := Lib.hid hab; clear hab
        go_wp2
        go_ret
        exact ⟨by simp [HAB.out], n, rfl⟩
  · have hne : a ≠ b := fun e => hl (by rw [e])
    have HNE := Lib.hid hne; clear hne
    have hb : ((a.length : Int) != (b.length : Int)) = true := by simp; omega
    clear hl hr hr'
    go_enter Try.func11, Try.ntmps11
    go_wp2
    go_ret
    exact ⟨by simp [HNE.out], 0, rfl⟩

end Go.Proofs.Ytcpcbgemnfpfjaa

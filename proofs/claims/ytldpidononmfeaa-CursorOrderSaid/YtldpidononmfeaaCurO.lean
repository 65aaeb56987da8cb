/- Layer 30: the law CursorOrder (printed by curm.py). -/
import Derived.Test.YtldpidononmfeaaCurM
set_option linter.unusedVariables false
set_option linter.unusedSimpArgs false
namespace Go.Proofs.Ytldpidononmfeaa
open Go.RowKit

def atZ (m : Int) (k : Nat) : Int := if k = 0 then 0 else ((k : Int) - 1) / m
def lastZ (fi m : Int) (k : Nat) : Int := if k = 0 then 0 else fi + ((k : Int) - 1) % m
set_option maxRecDepth 100000 in
set_option maxHeartbeats 4000000 in
theorem lawOrder_any (x : Cf) (A : Option Addr) (n c : Nat) (w : World) (hr : Rd w w.heap.size 2 A n (stCells x.ss)) (hl : x.ss.length = n) (hn : n ≤ maxLen) :
    Calls Try.prog 5 #[cfV A n c x] w fun e w' => e = .returned (.bool true) ∧ Below w.heap.size w w' := by
  obtain ⟨ck, hck⟩ : ∃ ck, checkZ x = ck := ⟨_, rfl⟩
  obtain ⟨U, hU⟩ : ∃ U, unitsZ x = U := ⟨_, rfl⟩
  have HCK := Lib.hid (fun (W : World) (h : Below w.heap.size w W) => rcheck_any x A n c _ ck W (hr.below h (Nat.le_refl _)) hl hn hck)
  have HU := Lib.hid (fun (W : World) (h : Below w.heap.size w W) => units_any x A n c _ U W (hr.below h (Nat.le_refl _)) hl hn hU)
  have HP := Lib.hid (fun (k a b : Int) (o : Bool) (hp : placeZ x k = (a, b, o)) (W : World) (h : Below w.heap.size w W) => place_any x A n c _ k a b o W (hr.below h (Nat.le_refl _)) hl hn hp)
  have hpz : ∀ k, placeZ x k = if k < 0 ∨ U ≤ k then (0, 0, false) else (k / (x.la - x.fi + 1), x.fi + k % (x.la - x.fi + 1), true) := fun k => by rw [placeZ, hU]
  have hUb := units_bd x
  rw [hU] at hUb
  have hu0 : ck ≠ 0 → U = 0 := fun h => by rw [← hU, unitsZ, if_neg (by rw [hck]; exact h)]
  have hu1 : ck = 0 → U = n * (x.la - x.fi + 1) := fun h => by rw [← hU, units_eq (by rw [hck]; exact h), hl]
  have hok : ck = 0 → _ := fun h => check_ok (x := x) (by rw [hck]; exact h)
  rw [hl] at hok
  clear hr hl hck hU
  unfold maxLen at hn
  by_cases h0 : ck = 0
  · go_enter Try.func5, Try.ntmps5
    have hb0 : Below w.heap.size w (w.alloc (.cells #[.slice A n c, .int .i64 x.fi, .int .i64 x.la, .int .i64 x.re, .int .i64 x.ti, .int .i64 x.de, .int .i64 x.w0f, .int .i64 x.w0c, .int .i64 x.w1f, .int .i64 x.w1c, .int .i64 x.w2f, .int .i64 x.w2c, .int .i64 x.w3f, .int .i64 x.w3c, .int .i64 x.ev, .int .i64 x.st] 27)) := (Below.refl _ _).alloc (Nat.le_refl _) _
    have HB0 := Lib.hid (Box.alloc_ (w := w) (cs := #[.slice A n c, .int .i64 x.fi, .int .i64 x.la, .int .i64 x.re, .int .i64 x.ti, .int .i64 x.de, .int .i64 x.w0f, .int .i64 x.w0c, .int .i64 x.w1f, .int .i64 x.w1c, .int .i64 x.w2f, .int .i64 x.w2c, .int .i64 x.w3f, .int .i64 x.w3c, .int .i64 x.ev, .int .i64 x.st]) (e := 27))
    obtain ⟨g1, g2, g3, g4, g5, _⟩ := hok h0
    have hUe := hu1 h0
    obtain ⟨m, hm⟩ : ∃ m, x.la - x.fi + 1 = m := ⟨_, rfl⟩
    obtain ⟨fi, hfi⟩ : ∃ fi, x.fi = fi := ⟨_, rfl⟩
    obtain ⟨la, hla⟩ : ∃ la, x.la = la := ⟨_, rfl⟩
    rw [hm] at hUe
    simp only [hm] at hpz
    rw [hfi, hla] at hm
    rw [hfi] at g1 g2
    rw [hla] at g2 g3
    simp only [hfi] at hpz
    have hm1 : 1 ≤ m := by omega
    have hm2 : m ≤ 247 := by omega
    have hU1 : 1 ≤ U := by
      have := Int.mul_le_mul (show (1 : Int) ≤ n by omega) hm1 (by omega) (by omega)
      omega
    obtain ⟨u, hu⟩ : ∃ u : Nat, U = (u : Int) := ⟨U.toNat, by omega⟩
    subst hu
    obtain ⟨l1, l2⟩ := last_div (n := n) (m := m) (by omega) hm1
    rw [← hUe] at l1 l2
    have HPZ := Lib.hid hpz
    have HL1 := Lib.hid l1
    have HL2 := Lib.hid l2
    have HFI := Lib.hid hfi
    have HLA := Lib.hid hla
    have HMM := Lib.hid hm
    obtain ⟨hUb1, hUb2⟩ := hUb
    subst h0
    clear hpz hUe hu0 hu1 hok l1 l2 hfi hla hm
    go_wp2_with fail
    refine (HCK.out _ hb0).mono ?_
    rintro e w1 ⟨rfl, hb1⟩
    have HB1 := Lib.hid (HB0.out.below hb1)
    have hbw1 := hb0.trans (hb1.mono hb0.size)
    obtain ⟨q, z, l⟩ := HB1.out
    clear hb1 hb0 HB0 HCK
    go_wp2_with fail
    refine (HU.out _ hbw1).mono ?_
    rintro e w2 ⟨rfl, hb2⟩
    have HB2 := Lib.hid (HB1.out.below hb2)
    have hbw2 := ext_trans hbw1 hb2
    clear q z l hb2 HB1 HU hbw1
    go_wp2_with fail
    go_loopw [4, 5, 6, 7, 8, 9] (fun at_ la_ i s7 s8 s9 wr => ∃ k : Nat, k ≤ u ∧ i = .int .i64 k ∧ at_ = .int .i64 (atZ m k) ∧ la_ = .int .i64 (lastZ fi m k) ∧ Below w2.heap.size w2 wr) (fun _ _ i _ _ _ _ => u - (intOf i).toNat)
    case atStart => exact ⟨0, by omega, rfl, rfl, rfl, Below.refl _ _⟩
    case round =>
      obtain ⟨k, hk, rfl, rfl, rfl, hbr⟩ := hrel
      have HB3 := Lib.hid (HB2.out.below hbr)
      have hbw3 := ext_trans hbw2 hbr
      obtain ⟨q, z, l⟩ := HB3.out
      by_cases hlt : k < u
      · have hpk := HPZ.out k
        rw [if_neg (by omega)] at hpk
        obtain ⟨s, hs⟩ : ∃ s, (k : Int) / m = s := ⟨_, rfl⟩
        obtain ⟨t, ht⟩ : ∃ t, (k : Int) % m = t := ⟨_, rfl⟩
        rw [hs, ht] at hpk
        have ht0 : 0 ≤ t := ht ▸ Int.emod_nonneg _ (by omega)
        have HPk := Lib.hid (HP.out k s (fi + t) true hpk)
        have hnx1 : atZ m (k + 1) = s := by rw [atZ, if_neg (by omega), ← hs]; congr 1; omega
        have hnx2 : lastZ fi m (k + 1) = fi + t := by rw [lastZ, if_neg (by omega), ← ht]; congr 2; omega
        obtain ⟨a0, ha0⟩ : ∃ a0, atZ m k = a0 := ⟨_, rfl⟩
        obtain ⟨l0, hl0⟩ : ∃ l0, lastZ fi m k = l0 := ⟨_, rfl⟩
        have hway : (k = 0 ∧ s = 0 ∧ a0 = 0 ∧ l0 = 0) ∨ (1 ≤ k ∧ (a0 < s ∨ (a0 = s ∧ l0 < fi + t))) := by
          by_cases hk0 : k = 0
          · subst hk0
            left
            exact ⟨rfl, by rw [← hs]; simp, by rw [← ha0]; rfl, by rw [← hl0]; rfl⟩
          · right
            refine ⟨by omega, ?_⟩
            have hsd := step_div (k := (k : Int)) (m := m) (by omega) hm1
            rw [hs, ht] at hsd
            rw [atZ, if_neg hk0] at ha0
            rw [lastZ, if_neg hk0] at hl0
            rw [ha0] at hsd
            rcases hsd with h | ⟨h1, h2⟩
            · exact .inl h
            · exact .inr ⟨h1, by omega⟩
        have HN1 := Lib.hid hnx1
        have HN2 := Lib.hid hnx2
        rw [ha0, hl0]
        clear hpk hs ht hnx1 hnx2 ha0 hl0
        go_wp2_with fail
        refine (HPk.out _ hbw3).mono ?_
        rintro e w4 ⟨rfl, hb4⟩
        have hbr4 := ext_trans hbr hb4
        clear q z l hb4
        rcases hway with ⟨rfl, rfl, rfl, rfl⟩ | ⟨hk1, h | ⟨rfl, h⟩⟩
        · have hd : decide (fi + t ≤ 0) = false := by simp; omega
          go_wp2_with fail
          exact ⟨⟨0 + 1, by omega, by go_num, by rw [HN1.out], by rw [HN2.out], hbr4⟩, by simp [intOf]; omega⟩
        · have hd1 : decide (s < a0) = false := by simp; omega
          have hd2 : (s == a0) = false := by simp; omega
          go_wp2_with fail
          exact ⟨⟨k + 1, by omega, by go_num, by rw [HN1.out], by rw [HN2.out], hbr4⟩, by simp [intOf]; omega⟩
        · have hd1 : decide (a0 < a0) = false := by simp
          have hd2 : (a0 == a0) = true := by simp
          have hd3 : decide (fi + t ≤ l0) = false := by simp; omega
          go_wp2_with fail
          exact ⟨⟨k + 1, by omega, by go_num, by rw [HN1.out], by rw [HN2.out], hbr4⟩, by simp [intOf]; omega⟩
      · obtain rfl : k = u := by omega
        have hpk := HPZ.out k
        rw [if_pos (by omega)] at hpk
        have HPk := Lib.hid (HP.out k 0 0 false hpk)
        have hat : atZ m k = (n : Int) - 1 := by rw [atZ, if_neg (by omega)]; exact HL1.out
        have hlz : lastZ fi m k = la := by rw [lastZ, if_neg (by omega), HL2.out]; have := HMM.out; omega
        rw [hat, hlz]
        clear hpk hat hlz
        go_wp2_with fail
        refine (HPk.out _ hbw3).mono ?_
        rintro e w4 ⟨rfl, hb4⟩
        have HB4 := Lib.hid (HB3.out.below hb4)
        have hbw4 := ext_trans hbw3 hb4
        clear q z l hb4 HB3
        go_wp2_with fail
        refine (awake_any _).mono ?_
        rintro e w5 ⟨rfl, hb5⟩
        obtain ⟨q, z, l⟩ := HB4.out.below hb5
        have y0 : w5.cell? ⟨w.heap.size, 0, none⟩ = some (.slice A n c) := q 0
        have y2 : w5.cell? ⟨w.heap.size, 2, none⟩ = some (.int .i64 la) := by rw [q 2, ← HLA.out]; rfl
        clear q
        go_wp2
        go_ret
        exact ⟨by first | rfl | simp, ext_trans hbw4 hb5⟩
  · go_enter Try.func5, Try.ntmps5
    have hb0 : Below w.heap.size w (w.alloc (.cells #[.slice A n c, .int .i64 x.fi, .int .i64 x.la, .int .i64 x.re, .int .i64 x.ti, .int .i64 x.de, .int .i64 x.w0f, .int .i64 x.w0c, .int .i64 x.w1f, .int .i64 x.w1c, .int .i64 x.w2f, .int .i64 x.w2c, .int .i64 x.w3f, .int .i64 x.w3c, .int .i64 x.ev, .int .i64 x.st] 27)) := (Below.refl _ _).alloc (Nat.le_refl _) _
    have HB0 := Lib.hid (Box.alloc_ (w := w) (cs := #[.slice A n c, .int .i64 x.fi, .int .i64 x.la, .int .i64 x.re, .int .i64 x.ti, .int .i64 x.de, .int .i64 x.w0f, .int .i64 x.w0c, .int .i64 x.w1f, .int .i64 x.w1c, .int .i64 x.w2f, .int .i64 x.w2c, .int .i64 x.w3f, .int .i64 x.w3c, .int .i64 x.ev, .int .i64 x.st]) (e := 27))
    obtain rfl := hu0 h0
    have hd : (ck != 0) = true := by simpa using h0
    clear hpz hu0 hu1 hok hUb h0
    go_wp2_with fail
    refine (HCK.out _ hb0).mono ?_
    rintro e w1 ⟨rfl, hb1⟩
    have HB1 := Lib.hid (HB0.out.below hb1)
    have hbw1 := hb0.trans (hb1.mono hb0.size)
    clear hb1 hb0 HB0
    go_wp2_with fail
    refine (awake_any _).mono ?_
    rintro e w2 ⟨rfl, hb2⟩
    obtain ⟨q, z, l⟩ := HB1.out.below hb2
    have hbw2 := ext_trans hbw1 hb2
    clear hb2
    go_wp2_with fail
    refine (HU.out _ hbw2).mono ?_
    rintro e w3 ⟨rfl, hb3⟩
    go_wp2
    go_ret
    exact ⟨rfl, ext_trans hbw2 hb3⟩
end Go.Proofs.Ytldpidononmfeaa

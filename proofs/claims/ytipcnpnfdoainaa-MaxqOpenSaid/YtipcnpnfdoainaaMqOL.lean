/- Layer 24: the law MaxqOpen. Printed by wip/mqo.py -/
import Derived.Test.YtipcnpnfdoainaaMqO
set_option linter.unusedVariables false
set_option linter.unusedSimpArgs false
namespace Go.Proofs.Ytipcnpnfdoainaa
open Go.RowKit

theorem Box.new_two {w : World} {o : Obj} {cs : Array Value} {e : TypeId} : Box ((w.alloc o).alloc (.cells cs e)) (w.heap.size + 1) cs := by
  have h := @Box.alloc_ (w.alloc o) cs e
  simpa using h
theorem below_set {B : Nat} {a w : World} (h : Below B a w) {g k : Nat} {v : Value} (hg : B ≤ g) : Below B a (w.setCell ⟨g, k, none⟩ v) := h.setCell hg v

set_option maxRecDepth 100000 in
set_option maxHeartbeats 4000000 in
theorem lawOpen_0 (t0 m0 a0 c0 : Int) (w : World) (hr4 : c0 % 4 = 0) :
    Calls Try.prog 5 #[.int .i64 t0, .int .i64 m0, .int .i64 a0, .int .i64 c0] w fun e w' => e = .returned (.bool true) ∧ Below w.heap.size w w' := by
  obtain ⟨r0, hr0⟩ : ∃ r, t0 % 4 = r := ⟨_, rfl⟩
  have b0 : 0 ≤ r0 ∧ r0 ≤ 3 := by omega
  obtain ⟨L, hL⟩ : ∃ L, mlim (1 + r0) = L := ⟨_, rfl⟩
  have bL := mlim_pos (1 + r0) (by omega) (by omega)
  rw [hL] at bL
  obtain ⟨r1, hr1⟩ : ∃ r, m0 % L = r := ⟨_, rfl⟩
  have b1 : 0 ≤ r1 ∧ 1 + r1 ≤ L := by
    have h1 := Int.emod_nonneg m0 (show L ≠ 0 by omega)
    have h2 := Int.emod_lt_of_pos m0 (show 0 < L by omega)
    omega
  obtain ⟨a, ha⟩ : ∃ a : Nat, a0 % 7 = (a : Int) := ⟨(a0 % 7).toNat, by omega⟩
  have ba : a ≤ 6 := by omega
  obtain ⟨r3, hr3⟩ : ∃ r, c0 % 100 = r := ⟨_, rfl⟩
  have b3 : 0 ≤ r3 ∧ r3 ≤ 99 := by omega
  have HM0 := Lib.hid (fun w => mod_eq t0 4 r0 (by omega) (by omega) hr0 w)
  have HM1 := Lib.hid (fun w => mod_eq m0 L r1 (by omega) (by omega) hr1 w)
  have HM2 := Lib.hid (fun w => mod_eq a0 7 a (by omega) (by omega) ha w)
  have HM3 := Lib.hid (fun w => mod_eq c0 100 r3 (by omega) (by omega) hr3 w)
  have HM4 := Lib.hid (fun w => mod_eq c0 4 0 (by omega) (by omega) hr4 w)
  have HN := Lib.hid (fun w => mqNew_any (1 + r0) w (by omega) (by omega))
  rw [hL] at HN
  have HL := Lib.hid (fun w => rlimit_any (1 + r0) L hL (by omega) (by omega) w)
  obtain ⟨b01, b02⟩ := b0
  obtain ⟨b11, b12⟩ := b1
  obtain ⟨b31, b32⟩ := b3
  obtain ⟨bL1, bL2⟩ := bL
  have hbad : ∀ lo hi q, mfeed 3 0 lo hi q = (lo, hi, 4) := fun lo hi q => bad_step (by omega)
  have HBD := Lib.hid hbad
  clear hr0 hL hr1 ha hr3 hr4 hbad
  go_enter Try.func5, Try.ntmps5
  go_wp2_with fail
  refine (HM0.out _).mono ?_
  rintro e w' ⟨rfl, rfl⟩
  go_wp2_with fail
  refine (HL.out _).mono ?_
  rintro e w' ⟨rfl, rfl⟩
  go_wp2_with fail
  refine (HM1.out _).mono ?_
  rintro e w' ⟨rfl, rfl⟩
  go_wp2_with fail
  refine (HN.out _).mono ?_
  rintro e w1 ⟨rfl, hB1, hb1⟩
  go_wp2_with fail
  refine (HM2.out _).mono ?_
  rintro e w' ⟨rfl, rfl⟩
  go_wp2_with fail
  refine (HM3.out _).mono ?_
  rintro e w' ⟨rfl, rfl⟩
  go_wp2_with fail
  refine (HM4.out _).mono ?_
  rintro e w' ⟨rfl, rfl⟩
  go_wp2_with fail
  obtain ⟨g, hg⟩ : ∃ g, w1.heap.size + 1 = g := ⟨_, rfl⟩
  rw [hg]
  have hs1 : w.heap.size < w1.heap.size := hB1.2.2
  have hsg : w.heap.size < g := by omega
  go_loopw [11] (fun i wr => ∃ k : Nat, k ≤ a + 1 ∧ i = .int .i64 k ∧ (∃ lo hi st, sBox wr w.heap.size (1 + r0) lo hi st k ∧ 0 ≤ lo ∧ lo ≤ 3000 ∧ 0 ≤ hi ∧ hi ≤ 3000 ∧ ((k ≤ a ∧ st = 0 ∧ wide k lo hi) ∨ (k = a + 1 ∧ st = 4))) ∧ Box wr g #[.int .i64 3, .int .i64 0, .int .i64 0, .slice none 0 0, .int .i64 0, .int .i64 0, .bool false, .int .i64 0, .slice none 0 0] ∧ Below w.heap.size w wr) (fun i _ => a + 1 - (intOf i).toNat)
  case atStart =>
    exact ⟨0, by omega, rfl, ⟨0, L + 1, 0, (hB1.alloc' _).alloc' _, by omega, by omega, by omega, by omega, .inl ⟨by omega, rfl, by simp [wide]; omega⟩⟩, by rw [← hg]; exact Box.new_two, (hb1.alloc hb1.size _).alloc (by simp; omega) _⟩
  case round =>
    obtain ⟨k, hk, rfl, ⟨lo, hi, st, hB, l0, l1, h0, h1, hcase⟩, hG, hbw⟩ := hrel
    clear hB1 hb1 hg
    have hsw := hB.2.2
    have HG := Lib.hid hG
    have HB := Lib.hid hB
    have hgl := hG.2.2
    rcases hcase with ⟨hka, rfl, hwd⟩ | ⟨rfl, rfl⟩
    · obtain ⟨n, hn⟩ : ∃ n, mqn lo hi k = n := ⟨_, rfl⟩
      obtain ⟨V, E, hO⟩ : ∃ V E, mqo n (1 + r1) true = (V, E) := ⟨_, _, rfl⟩
      obtain ⟨x, y, z, hF⟩ : ∃ x y z, mfeed V E lo hi k = (x, y, z) := ⟨_, _, _, rfl⟩
      have HX := Lib.hid (mqNext_open w.heap.size (1 + r0) lo hi k n wr hB l0 l1 h0 h1 hn)
      have HO := Lib.hid (fun w => outcome_any (1 + r0) 0 n 0 0 (1 + r1) V E true hO w)
      have HFo := Lib.hid (fun (W : World) (hW : sBox W w.heap.size (1 + r0) lo hi 0 k) => mqFeed_any w.heap.size (1 + r0) lo hi k x y z V (1 + r0) E 0 0 0 false none none 0 0 0 0 W hW l0 l1 h0 h1 (by omega) (by omega) hF)
      have HFb := Lib.hid (fun (W : World) (hW : sBox W w.heap.size (1 + r0) lo hi 0 k) => mqFeed_any w.heap.size (1 + r0) lo hi k lo hi 4 3 0 0 0 0 0 false none none 0 0 0 0 W hW l0 l1 h0 h1 (by omega) (by omega) (HBD.out lo hi k))
      have HST := Lib.hid (fun (h5 : k ≤ 5) => open_step k lo hi (1 + r1) V E x y z h5 hwd (by omega) (by rw [hn]; exact hO) hF)
      clear hn hO hF hB hG hwd
      go_wp2_with fail
      refine HX.out.mono ?_
      rintro e w2 ⟨rfl, hb2⟩
      have HB2 := Lib.hid (HB.out.below hb2)
      have HG2 := Lib.hid (HG.out.below hb2)
      have hbw2 := hbw.trans (hb2.mono hbw.size)
      have hs2 := hb2.size
      clear hb2 hbw
      go_wp2_with fail
      refine (HO.out _).mono ?_
      rintro e w3 ⟨rfl, hb3⟩
      have HB3 := Lib.hid ((HB2.out.alloc' _).below hb3)
      have HG3 := Lib.hid ((HG2.out.alloc' _).below hb3)
      have hbw3 := ext_alloc' hbw2 (by simpa using hb3)
      have hs3 : w2.heap.size + 1 ≤ w3.heap.size := by have := hb3.size; simpa using this
      clear hb3 hbw2
      by_cases hlt : k = a
      · subst hlt
        obtain ⟨qg, zg, lg⟩ := HG3.out
        have gne : g ≠ w3.heap.size := by omega
        go_wp2_with fail
        refine (HFb.out _ (HB3.out.alloc' _)).mono ?_
        rintro e w4 ⟨rfl, hf4⟩
        obtain ⟨hB4, hg4⟩ := hf4
        have hG4 := (HG3.out.alloc' _).grown hg4 (by omega)
        have hbw4 := below_one (ext_alloc hbw3 _) hg4 (Nat.le_refl _) (by simp; omega)
        clear hg4 HFb HFo HO HX qg zg lg
        go_wp2
        exact ⟨⟨k + 1, by omega, by go_num, ⟨lo, hi, 4, hB4, l0, l1, h0, h1, .inr ⟨rfl, rfl⟩⟩, hG4, hbw4⟩, by simp [intOf]⟩
      · have hka' : k < a := by omega
        have hne : ((k : Int) == (a : Int)) = false := by simp; omega
        obtain ⟨hz, hwd⟩ := HST.out (by omega)
        subst hz
        have hbd := wide_bd (by omega) hwd
        have HW := Lib.hid hwd
        obtain ⟨d0, d1, d2, d3⟩ := hbd
        clear hwd hlt
        go_wp2_with fail
        refine (HFo.out _ (HB3.out.alloc' _)).mono ?_
        rintro e w4 ⟨rfl, hf4⟩
        obtain ⟨hB4, hg4⟩ := hf4
        have hG4 := (HG3.out.alloc' _).grown hg4 (by omega)
        have hbw4 := below_one (ext_alloc hbw3 _) hg4 (Nat.le_refl _) (by simp; omega)
        clear hg4 HFb HFo HO HX
        go_wp2
        exact ⟨⟨k + 1, by omega, by go_num, ⟨x, y, 0, hB4, d0, d1, d2, d3, .inl ⟨by omega, rfl, HW.out⟩⟩, hG4, hbw4⟩, by simp [intOf]; omega⟩
    · clear hB hG
      go_wp2_with fail
      refine (mqNext_done w.heap.size (1 + r0) lo hi 4 _ wr HB.out (by omega)).mono ?_
      rintro e w2 ⟨rfl, hb2⟩
      have HB2 := Lib.hid ((HB.out.below hb2).alloc' (.cells #[.int .i64 0, .int .i64 0, .int .i64 0, .int .i64 0, .int .i64 0] 30))
      have HG2 := Lib.hid ((HG.out.below hb2).alloc' (.cells #[.int .i64 0, .int .i64 0, .int .i64 0, .int .i64 0, .int .i64 0] 30))
      have hbw2 := ext_alloc (hbw.trans (hb2.mono hbw.size)) (.cells #[.int .i64 0, .int .i64 0, .int .i64 0, .int .i64 0, .int .i64 0] 30)
      clear hb2 hbw
      go_wp2_with fail
      refine (mqResult_any w.heap.size (1 + r0) lo hi 4 _ _ HB2.out 0 (by simp [mres])).mono ?_
      rintro e w3 ⟨rfl, m3, rfl⟩
      go_wp2_with fail
      refine (mqResult_nil _).mono ?_
      rintro e w' ⟨rfl, rfl⟩
      go_wp2_with fail
      refine (mqNext_nil _).mono ?_
      rintro e w4 ⟨rfl, hb4⟩
      have HB4 := Lib.hid ((Box.drewN HB2.out m3).below hb4)
      have HG4 := Lib.hid ((Box.drewN HG2.out m3).below hb4)
      have hbw4 := (below_drewN hbw2 m3).trans (hb4.mono (below_drewN hbw2 m3).size)
      clear hb4 hbw2
      go_wp2_with fail
      refine (awake_any _).mono ?_
      rintro e w5 ⟨rfl, hb5⟩
      have HB5 := Lib.hid ((HB4.out.alloc' _).below hb5)
      have HG5 := Lib.hid ((HG4.out.alloc' _).below hb5)
      have hbw5 := ext_alloc' hbw4 (by simpa using hb5)
      obtain ⟨qg, zg, lg⟩ := HG5.out
      clear hb5 hbw4
      go_wp2_with fail
      refine (mqFeed_closed w.heap.size (1 + r0) lo hi 4 _ 3 0 0 0 0 0 false none none 0 0 0 0 _ HB5.out (by omega)).mono ?_
      rintro e w6 ⟨rfl, hf6⟩
      obtain ⟨hB6, hg6⟩ := hf6
      have HG6 := HG5.out.grown hg6 (by omega)
      have hbw6 := below_one hbw5 hg6 (Nat.le_refl _) hbw5.size
      obtain ⟨qh, zh, lh⟩ := HG6
      clear hg6 hbw5 hB6
      go_wp2_with fail
      refine (mqFeed_nil 3 0 0 0 0 0 false none none 0 0 0 0 _).mono ?_
      rintro e w7 ⟨rfl, hb7⟩
      go_wp2_with fail
      refine (mqQueries_nil _).mono ?_
      rintro e w' ⟨rfl, rfl⟩
      go_wp2
      go_ret
      exact ⟨rfl, ext_trans hbw6 hb7⟩

set_option maxRecDepth 100000 in
set_option maxHeartbeats 4000000 in
theorem lawOpen_1 (t0 m0 a0 c0 : Int) (w : World) (hr4 : c0 % 4 = 1) :
    Calls Try.prog 5 #[.int .i64 t0, .int .i64 m0, .int .i64 a0, .int .i64 c0] w fun e w' => e = .returned (.bool true) ∧ Below w.heap.size w w' := by
  obtain ⟨r0, hr0⟩ : ∃ r, t0 % 4 = r := ⟨_, rfl⟩
  have b0 : 0 ≤ r0 ∧ r0 ≤ 3 := by omega
  obtain ⟨L, hL⟩ : ∃ L, mlim (1 + r0) = L := ⟨_, rfl⟩
  have bL := mlim_pos (1 + r0) (by omega) (by omega)
  rw [hL] at bL
  obtain ⟨r1, hr1⟩ : ∃ r, m0 % L = r := ⟨_, rfl⟩
  have b1 : 0 ≤ r1 ∧ 1 + r1 ≤ L := by
    have h1 := Int.emod_nonneg m0 (show L ≠ 0 by omega)
    have h2 := Int.emod_lt_of_pos m0 (show 0 < L by omega)
    omega
  obtain ⟨a, ha⟩ : ∃ a : Nat, a0 % 7 = (a : Int) := ⟨(a0 % 7).toNat, by omega⟩
  have ba : a ≤ 6 := by omega
  obtain ⟨r3, hr3⟩ : ∃ r, c0 % 100 = r := ⟨_, rfl⟩
  have b3 : 0 ≤ r3 ∧ r3 ≤ 99 := by omega
  have HM0 := Lib.hid (fun w => mod_eq t0 4 r0 (by omega) (by omega) hr0 w)
  have HM1 := Lib.hid (fun w => mod_eq m0 L r1 (by omega) (by omega) hr1 w)
  have HM2 := Lib.hid (fun w => mod_eq a0 7 a (by omega) (by omega) ha w)
  have HM3 := Lib.hid (fun w => mod_eq c0 100 r3 (by omega) (by omega) hr3 w)
  have HM4 := Lib.hid (fun w => mod_eq c0 4 1 (by omega) (by omega) hr4 w)
  have HN := Lib.hid (fun w => mqNew_any (1 + r0) w (by omega) (by omega))
  rw [hL] at HN
  have HL := Lib.hid (fun w => rlimit_any (1 + r0) L hL (by omega) (by omega) w)
  obtain ⟨b01, b02⟩ := b0
  obtain ⟨b11, b12⟩ := b1
  obtain ⟨b31, b32⟩ := b3
  obtain ⟨bL1, bL2⟩ := bL
  have hbad : ∀ lo hi q, mfeed 4 0 lo hi q = (lo, hi, 4) := fun lo hi q => bad_step (by omega)
  have HBD := Lib.hid hbad
  clear hr0 hL hr1 ha hr3 hr4 hbad
  go_enter Try.func5, Try.ntmps5
  go_wp2_with fail
  refine (HM0.out _).mono ?_
  rintro e w' ⟨rfl, rfl⟩
  go_wp2_with fail
  refine (HL.out _).mono ?_
  rintro e w' ⟨rfl, rfl⟩
  go_wp2_with fail
  refine (HM1.out _).mono ?_
  rintro e w' ⟨rfl, rfl⟩
  go_wp2_with fail
  refine (HN.out _).mono ?_
  rintro e w1 ⟨rfl, hB1, hb1⟩
  go_wp2_with fail
  refine (HM2.out _).mono ?_
  rintro e w' ⟨rfl, rfl⟩
  go_wp2_with fail
  refine (HM3.out _).mono ?_
  rintro e w' ⟨rfl, rfl⟩
  go_wp2_with fail
  refine (HM4.out _).mono ?_
  rintro e w' ⟨rfl, rfl⟩
  go_wp2_with fail
  obtain ⟨g, hg⟩ : ∃ g, w1.heap.size + 1 = g := ⟨_, rfl⟩
  rw [hg]
  have hs1 : w.heap.size < w1.heap.size := hB1.2.2
  have hsg : w.heap.size < g := by omega
  go_loopw [11] (fun i wr => ∃ k : Nat, k ≤ a + 1 ∧ i = .int .i64 k ∧ (∃ lo hi st, sBox wr w.heap.size (1 + r0) lo hi st k ∧ 0 ≤ lo ∧ lo ≤ 3000 ∧ 0 ≤ hi ∧ hi ≤ 3000 ∧ ((k ≤ a ∧ st = 0 ∧ wide k lo hi) ∨ (k = a + 1 ∧ st = 4))) ∧ Box wr g #[.int .i64 4, .int .i64 0, .int .i64 0, .slice none 0 0, .int .i64 0, .int .i64 0, .bool false, .int .i64 0, .slice none 0 0] ∧ Below w.heap.size w wr) (fun i _ => a + 1 - (intOf i).toNat)
  case atStart =>
    exact ⟨0, by omega, rfl, ⟨0, L + 1, 0, (hB1.alloc' _).alloc' _, by omega, by omega, by omega, by omega, .inl ⟨by omega, rfl, by simp [wide]; omega⟩⟩, by rw [← hg]; exact Box.new_two, (hb1.alloc hb1.size _).alloc (by simp; omega) _⟩
  case round =>
    obtain ⟨k, hk, rfl, ⟨lo, hi, st, hB, l0, l1, h0, h1, hcase⟩, hG, hbw⟩ := hrel
    clear hB1 hb1 hg
    have hsw := hB.2.2
    have HG := Lib.hid hG
    have HB := Lib.hid hB
    have hgl := hG.2.2
    rcases hcase with ⟨hka, rfl, hwd⟩ | ⟨rfl, rfl⟩
    · obtain ⟨n, hn⟩ : ∃ n, mqn lo hi k = n := ⟨_, rfl⟩
      obtain ⟨V, E, hO⟩ : ∃ V E, mqo n (1 + r1) true = (V, E) := ⟨_, _, rfl⟩
      obtain ⟨x, y, z, hF⟩ : ∃ x y z, mfeed V E lo hi k = (x, y, z) := ⟨_, _, _, rfl⟩
      have HX := Lib.hid (mqNext_open w.heap.size (1 + r0) lo hi k n wr hB l0 l1 h0 h1 hn)
      have HO := Lib.hid (fun w => outcome_any (1 + r0) 0 n 0 0 (1 + r1) V E true hO w)
      have HFo := Lib.hid (fun (W : World) (hW : sBox W w.heap.size (1 + r0) lo hi 0 k) => mqFeed_any w.heap.size (1 + r0) lo hi k x y z V (1 + r0) E 0 0 0 false none none 0 0 0 0 W hW l0 l1 h0 h1 (by omega) (by omega) hF)
      have HFb := Lib.hid (fun (W : World) (hW : sBox W w.heap.size (1 + r0) lo hi 0 k) => mqFeed_any w.heap.size (1 + r0) lo hi k lo hi 4 4 0 0 0 0 0 false none none 0 0 0 0 W hW l0 l1 h0 h1 (by omega) (by omega) (HBD.out lo hi k))
      have HST := Lib.hid (fun (h5 : k ≤ 5) => open_step k lo hi (1 + r1) V E x y z h5 hwd (by omega) (by rw [hn]; exact hO) hF)
      clear hn hO hF hB hG hwd
      go_wp2_with fail
      refine HX.out.mono ?_
      rintro e w2 ⟨rfl, hb2⟩
      have HB2 := Lib.hid (HB.out.below hb2)
      have HG2 := Lib.hid (HG.out.below hb2)
      have hbw2 := hbw.trans (hb2.mono hbw.size)
      have hs2 := hb2.size
      clear hb2 hbw
      go_wp2_with fail
      refine (HO.out _).mono ?_
      rintro e w3 ⟨rfl, hb3⟩
      have HB3 := Lib.hid ((HB2.out.alloc' _).below hb3)
      have HG3 := Lib.hid ((HG2.out.alloc' _).below hb3)
      have hbw3 := ext_alloc' hbw2 (by simpa using hb3)
      have hs3 : w2.heap.size + 1 ≤ w3.heap.size := by have := hb3.size; simpa using this
      clear hb3 hbw2
      by_cases hlt : k = a
      · subst hlt
        obtain ⟨qg, zg, lg⟩ := HG3.out
        have gne : g ≠ w3.heap.size := by omega
        go_wp2_with fail
        refine (HFb.out _ (HB3.out.alloc' _)).mono ?_
        rintro e w4 ⟨rfl, hf4⟩
        obtain ⟨hB4, hg4⟩ := hf4
        have hG4 := (HG3.out.alloc' _).grown hg4 (by omega)
        have hbw4 := below_one (ext_alloc hbw3 _) hg4 (Nat.le_refl _) (by simp; omega)
        clear hg4 HFb HFo HO HX qg zg lg
        go_wp2
        exact ⟨⟨k + 1, by omega, by go_num, ⟨lo, hi, 4, hB4, l0, l1, h0, h1, .inr ⟨rfl, rfl⟩⟩, hG4, hbw4⟩, by simp [intOf]⟩
      · have hka' : k < a := by omega
        have hne : ((k : Int) == (a : Int)) = false := by simp; omega
        obtain ⟨hz, hwd⟩ := HST.out (by omega)
        subst hz
        have hbd := wide_bd (by omega) hwd
        have HW := Lib.hid hwd
        obtain ⟨d0, d1, d2, d3⟩ := hbd
        clear hwd hlt
        go_wp2_with fail
        refine (HFo.out _ (HB3.out.alloc' _)).mono ?_
        rintro e w4 ⟨rfl, hf4⟩
        obtain ⟨hB4, hg4⟩ := hf4
        have hG4 := (HG3.out.alloc' _).grown hg4 (by omega)
        have hbw4 := below_one (ext_alloc hbw3 _) hg4 (Nat.le_refl _) (by simp; omega)
        clear hg4 HFb HFo HO HX
        go_wp2
        exact ⟨⟨k + 1, by omega, by go_num, ⟨x, y, 0, hB4, d0, d1, d2, d3, .inl ⟨by omega, rfl, HW.out⟩⟩, hG4, hbw4⟩, by simp [intOf]; omega⟩
    · clear hB hG
      go_wp2_with fail
      refine (mqNext_done w.heap.size (1 + r0) lo hi 4 _ wr HB.out (by omega)).mono ?_
      rintro e w2 ⟨rfl, hb2⟩
      have HB2 := Lib.hid ((HB.out.below hb2).alloc' (.cells #[.int .i64 0, .int .i64 0, .int .i64 0, .int .i64 0, .int .i64 0] 30))
      have HG2 := Lib.hid ((HG.out.below hb2).alloc' (.cells #[.int .i64 0, .int .i64 0, .int .i64 0, .int .i64 0, .int .i64 0] 30))
      have hbw2 := ext_alloc (hbw.trans (hb2.mono hbw.size)) (.cells #[.int .i64 0, .int .i64 0, .int .i64 0, .int .i64 0, .int .i64 0] 30)
      clear hb2 hbw
      go_wp2_with fail
      refine (mqResult_any w.heap.size (1 + r0) lo hi 4 _ _ HB2.out 0 (by simp [mres])).mono ?_
      rintro e w3 ⟨rfl, m3, rfl⟩
      go_wp2_with fail
      refine (mqResult_nil _).mono ?_
      rintro e w' ⟨rfl, rfl⟩
      go_wp2_with fail
      refine (mqNext_nil _).mono ?_
      rintro e w4 ⟨rfl, hb4⟩
      have HB4 := Lib.hid ((Box.drewN HB2.out m3).below hb4)
      have HG4 := Lib.hid ((Box.drewN HG2.out m3).below hb4)
      have hbw4 := (below_drewN hbw2 m3).trans (hb4.mono (below_drewN hbw2 m3).size)
      clear hb4 hbw2
      go_wp2_with fail
      refine (awake_any _).mono ?_
      rintro e w5 ⟨rfl, hb5⟩
      have HB5 := Lib.hid ((HB4.out.alloc' _).below hb5)
      have HG5 := Lib.hid ((HG4.out.alloc' _).below hb5)
      have hbw5 := ext_alloc' hbw4 (by simpa using hb5)
      obtain ⟨qg, zg, lg⟩ := HG5.out
      clear hb5 hbw4
      go_wp2_with fail
      refine (mqFeed_closed w.heap.size (1 + r0) lo hi 4 _ 4 0 0 0 0 0 false none none 0 0 0 0 _ HB5.out (by omega)).mono ?_
      rintro e w6 ⟨rfl, hf6⟩
      obtain ⟨hB6, hg6⟩ := hf6
      have HG6 := HG5.out.grown hg6 (by omega)
      have hbw6 := below_one hbw5 hg6 (Nat.le_refl _) hbw5.size
      obtain ⟨qh, zh, lh⟩ := HG6
      clear hg6 hbw5 hB6
      go_wp2_with fail
      refine (mqFeed_nil 4 0 0 0 0 0 false none none 0 0 0 0 _).mono ?_
      rintro e w7 ⟨rfl, hb7⟩
      go_wp2_with fail
      refine (mqQueries_nil _).mono ?_
      rintro e w' ⟨rfl, rfl⟩
      go_wp2
      go_ret
      exact ⟨rfl, ext_trans hbw6 hb7⟩

set_option maxRecDepth 100000 in
set_option maxHeartbeats 4000000 in
theorem lawOpen_2 (t0 m0 a0 c0 : Int) (w : World) (hr4 : c0 % 4 = 2) :
    Calls Try.prog 5 #[.int .i64 t0, .int .i64 m0, .int .i64 a0, .int .i64 c0] w fun e w' => e = .returned (.bool true) ∧ Below w.heap.size w w' := by
  obtain ⟨r0, hr0⟩ : ∃ r, t0 % 4 = r := ⟨_, rfl⟩
  have b0 : 0 ≤ r0 ∧ r0 ≤ 3 := by omega
  obtain ⟨L, hL⟩ : ∃ L, mlim (1 + r0) = L := ⟨_, rfl⟩
  have bL := mlim_pos (1 + r0) (by omega) (by omega)
  rw [hL] at bL
  obtain ⟨r1, hr1⟩ : ∃ r, m0 % L = r := ⟨_, rfl⟩
  have b1 : 0 ≤ r1 ∧ 1 + r1 ≤ L := by
    have h1 := Int.emod_nonneg m0 (show L ≠ 0 by omega)
    have h2 := Int.emod_lt_of_pos m0 (show 0 < L by omega)
    omega
  obtain ⟨a, ha⟩ : ∃ a : Nat, a0 % 7 = (a : Int) := ⟨(a0 % 7).toNat, by omega⟩
  have ba : a ≤ 6 := by omega
  obtain ⟨r3, hr3⟩ : ∃ r, c0 % 100 = r := ⟨_, rfl⟩
  have b3 : 0 ≤ r3 ∧ r3 ≤ 99 := by omega
  have HM0 := Lib.hid (fun w => mod_eq t0 4 r0 (by omega) (by omega) hr0 w)
  have HM1 := Lib.hid (fun w => mod_eq m0 L r1 (by omega) (by omega) hr1 w)
  have HM2 := Lib.hid (fun w => mod_eq a0 7 a (by omega) (by omega) ha w)
  have HM3 := Lib.hid (fun w => mod_eq c0 100 r3 (by omega) (by omega) hr3 w)
  have HM4 := Lib.hid (fun w => mod_eq c0 4 2 (by omega) (by omega) hr4 w)
  have HN := Lib.hid (fun w => mqNew_any (1 + r0) w (by omega) (by omega))
  rw [hL] at HN
  have HL := Lib.hid (fun w => rlimit_any (1 + r0) L hL (by omega) (by omega) w)
  obtain ⟨b01, b02⟩ := b0
  obtain ⟨b11, b12⟩ := b1
  obtain ⟨b31, b32⟩ := b3
  obtain ⟨bL1, bL2⟩ := bL
  have hbad : ∀ lo hi q, mfeed 5 0 lo hi q = (lo, hi, 4) := fun lo hi q => bad_step (by omega)
  have HBD := Lib.hid hbad
  clear hr0 hL hr1 ha hr3 hr4 hbad
  go_enter Try.func5, Try.ntmps5
  go_wp2_with fail
  refine (HM0.out _).mono ?_
  rintro e w' ⟨rfl, rfl⟩
  go_wp2_with fail
  refine (HL.out _).mono ?_
  rintro e w' ⟨rfl, rfl⟩
  go_wp2_with fail
  refine (HM1.out _).mono ?_
  rintro e w' ⟨rfl, rfl⟩
  go_wp2_with fail
  refine (HN.out _).mono ?_
  rintro e w1 ⟨rfl, hB1, hb1⟩
  go_wp2_with fail
  refine (HM2.out _).mono ?_
  rintro e w' ⟨rfl, rfl⟩
  go_wp2_with fail
  refine (HM3.out _).mono ?_
  rintro e w' ⟨rfl, rfl⟩
  go_wp2_with fail
  refine (HM4.out _).mono ?_
  rintro e w' ⟨rfl, rfl⟩
  go_wp2_with fail
  obtain ⟨g, hg⟩ : ∃ g, w1.heap.size + 1 = g := ⟨_, rfl⟩
  rw [hg]
  have hs1 : w.heap.size < w1.heap.size := hB1.2.2
  have hsg : w.heap.size < g := by omega
  go_loopw [11] (fun i wr => ∃ k : Nat, k ≤ a + 1 ∧ i = .int .i64 k ∧ (∃ lo hi st, sBox wr w.heap.size (1 + r0) lo hi st k ∧ 0 ≤ lo ∧ lo ≤ 3000 ∧ 0 ≤ hi ∧ hi ≤ 3000 ∧ ((k ≤ a ∧ st = 0 ∧ wide k lo hi) ∨ (k = a + 1 ∧ st = 4))) ∧ Box wr g #[.int .i64 5, .int .i64 0, .int .i64 0, .slice none 0 0, .int .i64 0, .int .i64 0, .bool false, .int .i64 0, .slice none 0 0] ∧ Below w.heap.size w wr) (fun i _ => a + 1 - (intOf i).toNat)
  case atStart =>
    exact ⟨0, by omega, rfl, ⟨0, L + 1, 0, (hB1.alloc' _).alloc' _, by omega, by omega, by omega, by omega, .inl ⟨by omega, rfl, by simp [wide]; omega⟩⟩, by rw [← hg]; exact Box.new_two, (hb1.alloc hb1.size _).alloc (by simp; omega) _⟩
  case round =>
    obtain ⟨k, hk, rfl, ⟨lo, hi, st, hB, l0, l1, h0, h1, hcase⟩, hG, hbw⟩ := hrel
    clear hB1 hb1 hg
    have hsw := hB.2.2
    have HG := Lib.hid hG
    have HB := Lib.hid hB
    have hgl := hG.2.2
    rcases hcase with ⟨hka, rfl, hwd⟩ | ⟨rfl, rfl⟩
    · obtain ⟨n, hn⟩ : ∃ n, mqn lo hi k = n := ⟨_, rfl⟩
      obtain ⟨V, E, hO⟩ : ∃ V E, mqo n (1 + r1) true = (V, E) := ⟨_, _, rfl⟩
      obtain ⟨x, y, z, hF⟩ : ∃ x y z, mfeed V E lo hi k = (x, y, z) := ⟨_, _, _, rfl⟩
      have HX := Lib.hid (mqNext_open w.heap.size (1 + r0) lo hi k n wr hB l0 l1 h0 h1 hn)
      have HO := Lib.hid (fun w => outcome_any (1 + r0) 0 n 0 0 (1 + r1) V E true hO w)
      have HFo := Lib.hid (fun (W : World) (hW : sBox W w.heap.size (1 + r0) lo hi 0 k) => mqFeed_any w.heap.size (1 + r0) lo hi k x y z V (1 + r0) E 0 0 0 false none none 0 0 0 0 W hW l0 l1 h0 h1 (by omega) (by omega) hF)
      have HFb := Lib.hid (fun (W : World) (hW : sBox W w.heap.size (1 + r0) lo hi 0 k) => mqFeed_any w.heap.size (1 + r0) lo hi k lo hi 4 5 0 0 0 0 0 false none none 0 0 0 0 W hW l0 l1 h0 h1 (by omega) (by omega) (HBD.out lo hi k))
      have HST := Lib.hid (fun (h5 : k ≤ 5) => open_step k lo hi (1 + r1) V E x y z h5 hwd (by omega) (by rw [hn]; exact hO) hF)
      clear hn hO hF hB hG hwd
      go_wp2_with fail
      refine HX.out.mono ?_
      rintro e w2 ⟨rfl, hb2⟩
      have HB2 := Lib.hid (HB.out.below hb2)
      have HG2 := Lib.hid (HG.out.below hb2)
      have hbw2 := hbw.trans (hb2.mono hbw.size)
      have hs2 := hb2.size
      clear hb2 hbw
      go_wp2_with fail
      refine (HO.out _).mono ?_
      rintro e w3 ⟨rfl, hb3⟩
      have HB3 := Lib.hid ((HB2.out.alloc' _).below hb3)
      have HG3 := Lib.hid ((HG2.out.alloc' _).below hb3)
      have hbw3 := ext_alloc' hbw2 (by simpa using hb3)
      have hs3 : w2.heap.size + 1 ≤ w3.heap.size := by have := hb3.size; simpa using this
      clear hb3 hbw2
      by_cases hlt : k = a
      · subst hlt
        obtain ⟨qg, zg, lg⟩ := HG3.out
        have gne : g ≠ w3.heap.size := by omega
        go_wp2_with fail
        refine (HFb.out _ (HB3.out.alloc' _)).mono ?_
        rintro e w4 ⟨rfl, hf4⟩
        obtain ⟨hB4, hg4⟩ := hf4
        have hG4 := (HG3.out.alloc' _).grown hg4 (by omega)
        have hbw4 := below_one (ext_alloc hbw3 _) hg4 (Nat.le_refl _) (by simp; omega)
        clear hg4 HFb HFo HO HX qg zg lg
        go_wp2
        exact ⟨⟨k + 1, by omega, by go_num, ⟨lo, hi, 4, hB4, l0, l1, h0, h1, .inr ⟨rfl, rfl⟩⟩, hG4, hbw4⟩, by simp [intOf]⟩
      · have hka' : k < a := by omega
        have hne : ((k : Int) == (a : Int)) = false := by simp; omega
        obtain ⟨hz, hwd⟩ := HST.out (by omega)
        subst hz
        have hbd := wide_bd (by omega) hwd
        have HW := Lib.hid hwd
        obtain ⟨d0, d1, d2, d3⟩ := hbd
        clear hwd hlt
        go_wp2_with fail
        refine (HFo.out _ (HB3.out.alloc' _)).mono ?_
        rintro e w4 ⟨rfl, hf4⟩
        obtain ⟨hB4, hg4⟩ := hf4
        have hG4 := (HG3.out.alloc' _).grown hg4 (by omega)
        have hbw4 := below_one (ext_alloc hbw3 _) hg4 (Nat.le_refl _) (by simp; omega)
        clear hg4 HFb HFo HO HX
        go_wp2
        exact ⟨⟨k + 1, by omega, by go_num, ⟨x, y, 0, hB4, d0, d1, d2, d3, .inl ⟨by omega, rfl, HW.out⟩⟩, hG4, hbw4⟩, by simp [intOf]; omega⟩
    · clear hB hG
      go_wp2_with fail
      refine (mqNext_done w.heap.size (1 + r0) lo hi 4 _ wr HB.out (by omega)).mono ?_
      rintro e w2 ⟨rfl, hb2⟩
      have HB2 := Lib.hid ((HB.out.below hb2).alloc' (.cells #[.int .i64 0, .int .i64 0, .int .i64 0, .int .i64 0, .int .i64 0] 30))
      have HG2 := Lib.hid ((HG.out.below hb2).alloc' (.cells #[.int .i64 0, .int .i64 0, .int .i64 0, .int .i64 0, .int .i64 0] 30))
      have hbw2 := ext_alloc (hbw.trans (hb2.mono hbw.size)) (.cells #[.int .i64 0, .int .i64 0, .int .i64 0, .int .i64 0, .int .i64 0] 30)
      clear hb2 hbw
      go_wp2_with fail
      refine (mqResult_any w.heap.size (1 + r0) lo hi 4 _ _ HB2.out 0 (by simp [mres])).mono ?_
      rintro e w3 ⟨rfl, m3, rfl⟩
      go_wp2_with fail
      refine (mqResult_nil _).mono ?_
      rintro e w' ⟨rfl, rfl⟩
      go_wp2_with fail
      refine (mqNext_nil _).mono ?_
      rintro e w4 ⟨rfl, hb4⟩
      have HB4 := Lib.hid ((Box.drewN HB2.out m3).below hb4)
      have HG4 := Lib.hid ((Box.drewN HG2.out m3).below hb4)
      have hbw4 := (below_drewN hbw2 m3).trans (hb4.mono (below_drewN hbw2 m3).size)
      clear hb4 hbw2
      go_wp2_with fail
      refine (awake_any _).mono ?_
      rintro e w5 ⟨rfl, hb5⟩
      have HB5 := Lib.hid ((HB4.out.alloc' _).below hb5)
      have HG5 := Lib.hid ((HG4.out.alloc' _).below hb5)
      have hbw5 := ext_alloc' hbw4 (by simpa using hb5)
      obtain ⟨qg, zg, lg⟩ := HG5.out
      clear hb5 hbw4
      go_wp2_with fail
      refine (mqFeed_closed w.heap.size (1 + r0) lo hi 4 _ 5 0 0 0 0 0 false none none 0 0 0 0 _ HB5.out (by omega)).mono ?_
      rintro e w6 ⟨rfl, hf6⟩
      obtain ⟨hB6, hg6⟩ := hf6
      have HG6 := HG5.out.grown hg6 (by omega)
      have hbw6 := below_one hbw5 hg6 (Nat.le_refl _) hbw5.size
      obtain ⟨qh, zh, lh⟩ := HG6
      clear hg6 hbw5 hB6
      go_wp2_with fail
      refine (mqFeed_nil 5 0 0 0 0 0 false none none 0 0 0 0 _).mono ?_
      rintro e w7 ⟨rfl, hb7⟩
      go_wp2_with fail
      refine (mqQueries_nil _).mono ?_
      rintro e w' ⟨rfl, rfl⟩
      go_wp2
      go_ret
      exact ⟨rfl, ext_trans hbw6 hb7⟩

set_option maxRecDepth 100000 in
set_option maxHeartbeats 4000000 in
theorem lawOpen_3 (t0 m0 a0 c0 : Int) (w : World) (hr4 : c0 % 4 = 3) :
    Calls Try.prog 5 #[.int .i64 t0, .int .i64 m0, .int .i64 a0, .int .i64 c0] w fun e w' => e = .returned (.bool true) ∧ Below w.heap.size w w' := by
  obtain ⟨r0, hr0⟩ : ∃ r, t0 % 4 = r := ⟨_, rfl⟩
  have b0 : 0 ≤ r0 ∧ r0 ≤ 3 := by omega
  obtain ⟨L, hL⟩ : ∃ L, mlim (1 + r0) = L := ⟨_, rfl⟩
  have bL := mlim_pos (1 + r0) (by omega) (by omega)
  rw [hL] at bL
  obtain ⟨r1, hr1⟩ : ∃ r, m0 % L = r := ⟨_, rfl⟩
  have b1 : 0 ≤ r1 ∧ 1 + r1 ≤ L := by
    have h1 := Int.emod_nonneg m0 (show L ≠ 0 by omega)
    have h2 := Int.emod_lt_of_pos m0 (show 0 < L by omega)
    omega
  obtain ⟨a, ha⟩ : ∃ a : Nat, a0 % 7 = (a : Int) := ⟨(a0 % 7).toNat, by omega⟩
  have ba : a ≤ 6 := by omega
  obtain ⟨r3, hr3⟩ : ∃ r, c0 % 100 = r := ⟨_, rfl⟩
  have b3 : 0 ≤ r3 ∧ r3 ≤ 99 := by omega
  have HM0 := Lib.hid (fun w => mod_eq t0 4 r0 (by omega) (by omega) hr0 w)
  have HM1 := Lib.hid (fun w => mod_eq m0 L r1 (by omega) (by omega) hr1 w)
  have HM2 := Lib.hid (fun w => mod_eq a0 7 a (by omega) (by omega) ha w)
  have HM3 := Lib.hid (fun w => mod_eq c0 100 r3 (by omega) (by omega) hr3 w)
  have HM4 := Lib.hid (fun w => mod_eq c0 4 3 (by omega) (by omega) hr4 w)
  have HN := Lib.hid (fun w => mqNew_any (1 + r0) w (by omega) (by omega))
  rw [hL] at HN
  have HL := Lib.hid (fun w => rlimit_any (1 + r0) L hL (by omega) (by omega) w)
  obtain ⟨b01, b02⟩ := b0
  obtain ⟨b11, b12⟩ := b1
  obtain ⟨b31, b32⟩ := b3
  obtain ⟨bL1, bL2⟩ := bL
  have hbad : ∀ lo hi q, mfeed 2 (4 + r3) lo hi q = (lo, hi, 4) := fun lo hi q => bad_step (by omega)
  have HBD := Lib.hid hbad
  clear hr0 hL hr1 ha hr3 hr4 hbad
  go_enter Try.func5, Try.ntmps5
  go_wp2_with fail
  refine (HM0.out _).mono ?_
  rintro e w' ⟨rfl, rfl⟩
  go_wp2_with fail
  refine (HL.out _).mono ?_
  rintro e w' ⟨rfl, rfl⟩
  go_wp2_with fail
  refine (HM1.out _).mono ?_
  rintro e w' ⟨rfl, rfl⟩
  go_wp2_with fail
  refine (HN.out _).mono ?_
  rintro e w1 ⟨rfl, hB1, hb1⟩
  go_wp2_with fail
  refine (HM2.out _).mono ?_
  rintro e w' ⟨rfl, rfl⟩
  go_wp2_with fail
  refine (HM3.out _).mono ?_
  rintro e w' ⟨rfl, rfl⟩
  go_wp2_with fail
  refine (HM4.out _).mono ?_
  rintro e w' ⟨rfl, rfl⟩
  go_wp2_with fail
  obtain ⟨g, hg⟩ : ∃ g, w1.heap.size + 1 = g := ⟨_, rfl⟩
  rw [hg]
  have hs1 : w.heap.size < w1.heap.size := hB1.2.2
  have hsg : w.heap.size < g := by omega
  go_loopw [11] (fun i wr => ∃ k : Nat, k ≤ a + 1 ∧ i = .int .i64 k ∧ (∃ lo hi st, sBox wr w.heap.size (1 + r0) lo hi st k ∧ 0 ≤ lo ∧ lo ≤ 3000 ∧ 0 ≤ hi ∧ hi ≤ 3000 ∧ ((k ≤ a ∧ st = 0 ∧ wide k lo hi) ∨ (k = a + 1 ∧ st = 4))) ∧ Box wr g #[.int .i64 2, .int .i64 (1 + r0), .int .i64 (4 + r3), .slice none 0 0, .int .i64 0, .int .i64 0, .bool false, .int .i64 0, .slice none 0 0] ∧ Below w.heap.size w wr) (fun i _ => a + 1 - (intOf i).toNat)
  case atStart =>
    exact ⟨0, by omega, rfl, ⟨0, L + 1, 0, (hB1.alloc' _).alloc' _, by omega, by omega, by omega, by omega, .inl ⟨by omega, rfl, by simp [wide]; omega⟩⟩, by rw [← hg]; exact Box.new_two, (hb1.alloc hb1.size _).alloc (by simp; omega) _⟩
  case round =>
    obtain ⟨k, hk, rfl, ⟨lo, hi, st, hB, l0, l1, h0, h1, hcase⟩, hG, hbw⟩ := hrel
    clear hB1 hb1 hg
    have hsw := hB.2.2
    have HG := Lib.hid hG
    have HB := Lib.hid hB
    have hgl := hG.2.2
    rcases hcase with ⟨hka, rfl, hwd⟩ | ⟨rfl, rfl⟩
    · obtain ⟨n, hn⟩ : ∃ n, mqn lo hi k = n := ⟨_, rfl⟩
      obtain ⟨V, E, hO⟩ : ∃ V E, mqo n (1 + r1) true = (V, E) := ⟨_, _, rfl⟩
      obtain ⟨x, y, z, hF⟩ : ∃ x y z, mfeed V E lo hi k = (x, y, z) := ⟨_, _, _, rfl⟩
      have HX := Lib.hid (mqNext_open w.heap.size (1 + r0) lo hi k n wr hB l0 l1 h0 h1 hn)
      have HO := Lib.hid (fun w => outcome_any (1 + r0) 0 n 0 0 (1 + r1) V E true hO w)
      have HFo := Lib.hid (fun (W : World) (hW : sBox W w.heap.size (1 + r0) lo hi 0 k) => mqFeed_any w.heap.size (1 + r0) lo hi k x y z V (1 + r0) E 0 0 0 false none none 0 0 0 0 W hW l0 l1 h0 h1 (by omega) (by omega) hF)
      have HFb := Lib.hid (fun (W : World) (hW : sBox W w.heap.size (1 + r0) lo hi 0 k) => mqFeed_any w.heap.size (1 + r0) lo hi k lo hi 4 2 (1 + r0) (4 + r3) 0 0 0 false none none 0 0 0 0 W hW l0 l1 h0 h1 (by omega) (by omega) (HBD.out lo hi k))
      have HST := Lib.hid (fun (h5 : k ≤ 5) => open_step k lo hi (1 + r1) V E x y z h5 hwd (by omega) (by rw [hn]; exact hO) hF)
      clear hn hO hF hB hG hwd
      go_wp2_with fail
      refine HX.out.mono ?_
      rintro e w2 ⟨rfl, hb2⟩
      have HB2 := Lib.hid (HB.out.below hb2)
      have HG2 := Lib.hid (HG.out.below hb2)
      have hbw2 := hbw.trans (hb2.mono hbw.size)
      have hs2 := hb2.size
      clear hb2 hbw
      go_wp2_with fail
      refine (HO.out _).mono ?_
      rintro e w3 ⟨rfl, hb3⟩
      have HB3 := Lib.hid ((HB2.out.alloc' _).below hb3)
      have HG3 := Lib.hid ((HG2.out.alloc' _).below hb3)
      have hbw3 := ext_alloc' hbw2 (by simpa using hb3)
      have hs3 : w2.heap.size + 1 ≤ w3.heap.size := by have := hb3.size; simpa using this
      clear hb3 hbw2
      by_cases hlt : k = a
      · subst hlt
        obtain ⟨qg, zg, lg⟩ := HG3.out
        have gne : g ≠ w3.heap.size := by omega
        go_wp2_with fail
        refine (HFb.out _ (HB3.out.alloc' _)).mono ?_
        rintro e w4 ⟨rfl, hf4⟩
        obtain ⟨hB4, hg4⟩ := hf4
        have hG4 := (HG3.out.alloc' _).grown hg4 (by omega)
        have hbw4 := below_one (ext_alloc hbw3 _) hg4 (Nat.le_refl _) (by simp; omega)
        clear hg4 HFb HFo HO HX qg zg lg
        go_wp2
        exact ⟨⟨k + 1, by omega, by go_num, ⟨lo, hi, 4, hB4, l0, l1, h0, h1, .inr ⟨rfl, rfl⟩⟩, hG4, hbw4⟩, by simp [intOf]⟩
      · have hka' : k < a := by omega
        have hne : ((k : Int) == (a : Int)) = false := by simp; omega
        obtain ⟨hz, hwd⟩ := HST.out (by omega)
        subst hz
        have hbd := wide_bd (by omega) hwd
        have HW := Lib.hid hwd
        obtain ⟨d0, d1, d2, d3⟩ := hbd
        clear hwd hlt
        go_wp2_with fail
        refine (HFo.out _ (HB3.out.alloc' _)).mono ?_
        rintro e w4 ⟨rfl, hf4⟩
        obtain ⟨hB4, hg4⟩ := hf4
        have hG4 := (HG3.out.alloc' _).grown hg4 (by omega)
        have hbw4 := below_one (ext_alloc hbw3 _) hg4 (Nat.le_refl _) (by simp; omega)
        clear hg4 HFb HFo HO HX
        go_wp2
        exact ⟨⟨k + 1, by omega, by go_num, ⟨x, y, 0, hB4, d0, d1, d2, d3, .inl ⟨by omega, rfl, HW.out⟩⟩, hG4, hbw4⟩, by simp [intOf]; omega⟩
    · clear hB hG
      go_wp2_with fail
      refine (mqNext_done w.heap.size (1 + r0) lo hi 4 _ wr HB.out (by omega)).mono ?_
      rintro e w2 ⟨rfl, hb2⟩
      have HB2 := Lib.hid ((HB.out.below hb2).alloc' (.cells #[.int .i64 0, .int .i64 0, .int .i64 0, .int .i64 0, .int .i64 0] 30))
      have HG2 := Lib.hid ((HG.out.below hb2).alloc' (.cells #[.int .i64 0, .int .i64 0, .int .i64 0, .int .i64 0, .int .i64 0] 30))
      have hbw2 := ext_alloc (hbw.trans (hb2.mono hbw.size)) (.cells #[.int .i64 0, .int .i64 0, .int .i64 0, .int .i64 0, .int .i64 0] 30)
      clear hb2 hbw
      go_wp2_with fail
      refine (mqResult_any w.heap.size (1 + r0) lo hi 4 _ _ HB2.out 0 (by simp [mres])).mono ?_
      rintro e w3 ⟨rfl, m3, rfl⟩
      go_wp2_with fail
      refine (mqResult_nil _).mono ?_
      rintro e w' ⟨rfl, rfl⟩
      go_wp2_with fail
      refine (mqNext_nil _).mono ?_
      rintro e w4 ⟨rfl, hb4⟩
      have HB4 := Lib.hid ((Box.drewN HB2.out m3).below hb4)
      have HG4 := Lib.hid ((Box.drewN HG2.out m3).below hb4)
      have hbw4 := (below_drewN hbw2 m3).trans (hb4.mono (below_drewN hbw2 m3).size)
      clear hb4 hbw2
      go_wp2_with fail
      refine (awake_any _).mono ?_
      rintro e w5 ⟨rfl, hb5⟩
      have HB5 := Lib.hid ((HB4.out.alloc' _).below hb5)
      have HG5 := Lib.hid ((HG4.out.alloc' _).below hb5)
      have hbw5 := ext_alloc' hbw4 (by simpa using hb5)
      obtain ⟨qg, zg, lg⟩ := HG5.out
      clear hb5 hbw4
      go_wp2_with fail
      refine (mqFeed_closed w.heap.size (1 + r0) lo hi 4 _ 2 (1 + r0) (4 + r3) 0 0 0 false none none 0 0 0 0 _ HB5.out (by omega)).mono ?_
      rintro e w6 ⟨rfl, hf6⟩
      obtain ⟨hB6, hg6⟩ := hf6
      have HG6 := HG5.out.grown hg6 (by omega)
      have hbw6 := below_one hbw5 hg6 (Nat.le_refl _) hbw5.size
      obtain ⟨qh, zh, lh⟩ := HG6
      clear hg6 hbw5 hB6
      go_wp2_with fail
      refine (mqFeed_nil 2 (1 + r0) (4 + r3) 0 0 0 false none none 0 0 0 0 _).mono ?_
      rintro e w7 ⟨rfl, hb7⟩
      go_wp2_with fail
      refine (mqQueries_nil _).mono ?_
      rintro e w' ⟨rfl, rfl⟩
      go_wp2
      go_ret
      exact ⟨rfl, ext_trans hbw6 hb7⟩
theorem lawOpen_any (t0 m0 a0 c0 : Int) (w : World) :
    Calls Try.prog 5 #[.int .i64 t0, .int .i64 m0, .int .i64 a0, .int .i64 c0] w fun e w' => e = .returned (.bool true) ∧ Below w.heap.size w w' := by
  rcases (show c0 % 4 = 0 ∨ c0 % 4 = 1 ∨ c0 % 4 = 2 ∨ c0 % 4 = 3 by omega) with h | h | h | h
  · exact lawOpen_0 t0 m0 a0 c0 w h
  · exact lawOpen_1 t0 m0 a0 c0 w h
  · exact lawOpen_2 t0 m0 a0 c0 w h
  · exact lawOpen_3 t0 m0 a0 c0 w h
end Go.Proofs.Ytipcnpnfdoainaa

/- Layer 10: the law RequestReads. -/
import Derived.Test.YtiebgbdnbfahoaaReqM
import Derived.Test.YtiebgbdnbfahoaaLib3
set_option linter.unusedVariables false
set_option linter.unusedSimpArgs false
namespace Go.Proofs.Ytiebgbdnbfahoaa
open Go.RowKit

/-- What Encode returns for a valid request, by the three shapes, cell by cell. -/
theorem enc17 (w : World) : Calls Try.prog 14 #[qv 17 0 0 0 0] w fun e w' => ∃ b off, e = .returned (.tuple #[.slice (some ⟨b, off, none⟩) 1 1, .int .i64 0]) ∧ b < w'.heap.size ∧ w'.cell? ⟨b, off, none⟩ = some (.int .u8 17) ∧ Below w.heap.size w w' := by
  refine (enc_yes 17 0 0 0 0 (by decide +kernel) w).mono ?_
  rintro e w' ⟨A, m, rfl, hm, hR, hb⟩
  obtain rfl : m = 1 := hm
  obtain ⟨b, off, rfl, hB, hc⟩ := hR.get8 (by omega)
  exact ⟨b, off, rfl, hB, hc 0 _ rfl, hb⟩
theorem enc43 (c o : Int) (hc1 : 1 ≤ c) (hc3 : c ≤ 3) (ho0 : 0 ≤ o) (ho1 : o ≤ 255) (w : World) : Calls Try.prog 14 #[qv 43 0 0 c o] w fun e w' => ∃ b off, e = .returned (.tuple #[.slice (some ⟨b, off, none⟩) 4 4, .int .i64 0]) ∧ b < w'.heap.size ∧ w'.cell? ⟨b, off, none⟩ = some (.int .u8 43) ∧ w'.cell? ⟨b, off + 1, none⟩ = some (.int .u8 14) ∧ w'.cell? ⟨b, off + 2, none⟩ = some (.int .u8 c) ∧ w'.cell? ⟨b, off + 3, none⟩ = some (.int .u8 o) ∧ Below w.heap.size w w' := by
  refine (enc_yes 43 0 0 c o (by simp [vq]; omega) w).mono ?_
  rintro e w' ⟨A, m, rfl, hm, hR, hb⟩
  obtain rfl : m = 4 := hm
  obtain ⟨b, off, rfl, hB, hc⟩ := hR.get8 (by omega)
  exact ⟨b, off, rfl, hB, hc 0 _ rfl, hc 1 _ rfl, hc 2 _ rfl, hc 3 _ rfl, hb⟩
theorem encT (f a n : Int) (f1 : 1 ≤ f) (f4 : f ≤ 4) (hv : vq f a n 0 0 = true) (w : World) : Calls Try.prog 14 #[qv f a n 0 0] w fun e w' => ∃ b off, e = .returned (.tuple #[.slice (some ⟨b, off, none⟩) 5 5, .int .i64 0]) ∧ b < w'.heap.size ∧ w'.cell? ⟨b, off, none⟩ = some (.int .u8 f) ∧ w'.cell? ⟨b, off + 1, none⟩ = some (.int .u8 (a / 256)) ∧ w'.cell? ⟨b, off + 2, none⟩ = some (.int .u8 (a % 256)) ∧ w'.cell? ⟨b, off + 3, none⟩ = some (.int .u8 (n / 256)) ∧ w'.cell? ⟨b, off + 4, none⟩ = some (.int .u8 (n % 256)) ∧ Below w.heap.size w w' := by
  refine (enc_yes f a n 0 0 hv w).mono ?_
  have hz : encL f a n 0 0 = [f, a / 256, a % 256, n / 256, n % 256] := by rw [encL, if_neg (by omega), if_neg (by omega)]
  rw [hz]
  rintro e w' ⟨A, m, rfl, hm, hR, hb⟩
  obtain rfl : m = 5 := hm
  obtain ⟨b, off, rfl, hB, hc⟩ := hR.get8 (by omega)
  exact ⟨b, off, rfl, hB, hc 0 _ rfl, hc 1 _ rfl, hc 2 _ rfl, hc 3 _ rfl, hc 4 _ rfl, hb⟩


set_option maxRecDepth 100000 in
set_option maxHeartbeats 2000000 in
theorem reads_raw (f a n c o k x y : Int) (w : World) : Calls Try.prog 6 #[qv f a n c o, .int .i64 k, .int .i64 x, .int .i64 y, .bool true] w fun e w' => e = .returned (.bool true) ∧ Below w.heap.size w w' := by
  obtain ⟨r, hv⟩ : ∃ r, vq f a n c o = r := ⟨_, rfl⟩
  cases r
  · have he := enc_no f a n c o hv
    have HE := Lib.hid he; clear he hv
    go_enter Try.func6, Try.ntmps6
    go_wp2_with fail
    refine (HE.out _).mono ?_
    rintro e w2 ⟨rfl, hb2⟩
    have hbw := ext_alloc' (Below.refl _ w) (by simpa using hb2)
    clear hb2
    go_wp2_with fail
    refine (awake_any _).mono ?_
    rintro e w3 ⟨rfl, hb3⟩
    go_wp2
    go_ret
    exact ⟨rfl, ext_trans hbw hb3⟩
  · rcases vq_cases hv with ⟨rfl, rfl, rfl, rfl, rfl⟩ | ⟨rfl, h1, h2, h3, h4, rfl, rfl⟩ | ⟨h1, h2, _, _, _, _, _, rfl, rfl⟩
    · have HV := Lib.hid hv; clear hv
      go_enter Try.func6, Try.ntmps6
      go_wp2_with fail
      refine (enc17 _).mono ?_
      rintro e w2 ⟨b, off, rfl, hB, d0, hb2⟩
      have hbw := ext_alloc' (Below.refl _ w) (by simpa using hb2)
      clear hb2
      go_wp2_with fail
      refine (awake_any _).mono ?_
      rintro e w3 ⟨rfl, hb3⟩
      go_wp2
      go_ret
      exact ⟨rfl, ext_trans hbw hb3⟩
    · have HV := Lib.hid hv; clear hv
      go_enter Try.func6, Try.ntmps6
      go_wp2_with fail
      refine (enc43 _ _ h1 h2 h3 h4 _).mono ?_
      rintro e w2 ⟨b, off, rfl, hB, d0, d1, d2, d3, hb2⟩
      have hbw := ext_alloc' (Below.refl _ w) (by simpa using hb2)
      clear hb2
      go_wp2_with fail
      refine (awake_any _).mono ?_
      rintro e w3 ⟨rfl, hb3⟩
      go_wp2
      go_ret
      exact ⟨rfl, ext_trans hbw hb3⟩
    · have HV := Lib.hid hv; clear hv
      go_enter Try.func6, Try.ntmps6
      go_wp2_with fail
      refine (encT _ _ _ h1 h2 HV.out _).mono ?_
      rintro e w2 ⟨b, off, rfl, hB, d0, d1, d2, d3, d4, hb2⟩
      have hbw := ext_alloc' (Below.refl _ w) (by simpa using hb2)
      clear hb2
      go_wp2_with fail
      refine (awake_any _).mono ?_
      rintro e w3 ⟨rfl, hb3⟩
      go_wp2
      go_ret
      exact ⟨rfl, ext_trans hbw hb3⟩

set_option maxRecDepth 100000 in
set_option maxHeartbeats 2000000 in
theorem reads_mk (f a n c o k x y : Int) (w : World) : Calls Try.prog 6 #[qv f a n c o, .int .i64 k, .int .i64 x, .int .i64 y, .bool false] w fun e w' => e = .returned (.bool true) ∧ Below w.heap.size w w' := by
  go_enter Try.func6, Try.ntmps6
  go_wp2_with fail
  refine (make_any k x y _).mono ?_
  rintro e w0 ⟨f', a', n', c', o', rfl, hv, hb0⟩
  obtain ⟨p0, z0, l0⟩ := box_new hb0
  have hbw := ext_alloc' (Below.refl _ w) (by simpa using hb0)
  clear hb0
  rcases vq_cases hv with ⟨rfl, rfl, rfl, rfl, rfl⟩ | ⟨rfl, h1, h2, h3, h4, rfl, rfl⟩ | ⟨h1, h2, _, _, _, _, _, rfl, rfl⟩
  · have HV := Lib.hid hv; clear hv
    obtain ⟨qs0, zs0, ls0⟩ := box_set (k := 0) (.int .i64 17) p0 z0 l0 (by simp)
    obtain ⟨qs1, zs1, ls1⟩ := box_set (k := 1) (.int .i64 0) qs0 zs0 ls0 (by simp)
    obtain ⟨qs2, zs2, ls2⟩ := box_set (k := 2) (.int .i64 0) qs1 zs1 ls1 (by simp)
    obtain ⟨qs3, zs3, ls3⟩ := box_set (k := 3) (.int .i64 0) qs2 zs2 ls2 (by simp)
    obtain ⟨qs4, zs4, ls4⟩ := box_set (k := 4) (.int .i64 0) qs3 zs3 ls3 (by simp)
    have hbs := ((((hbw.setCell (p := ⟨w.heap.size, 0, none⟩) (Nat.le_refl _) (.int .i64 17)).setCell (p := ⟨w.heap.size, 1, none⟩) (Nat.le_refl _) (.int .i64 0)).setCell (p := ⟨w.heap.size, 2, none⟩) (Nat.le_refl _) (.int .i64 0)).setCell (p := ⟨w.heap.size, 3, none⟩) (Nat.le_refl _) (.int .i64 0)).setCell (p := ⟨w.heap.size, 4, none⟩) (Nat.le_refl _) (.int .i64 0)
    go_wp2_with fail
    refine (enc17 _).mono ?_
    rintro e w2 ⟨b, off, rfl, hB, d0, hb2⟩
    have hbx := ext_trans hbs hb2
    clear hb2 hbs hbw
    go_wp2_with fail
    refine (awake_any _).mono ?_
    rintro e w3 ⟨rfl, hb3⟩
    go_wp2
    go_ret
    exact ⟨rfl, ext_trans hbx hb3⟩
  · have HV := Lib.hid hv; clear hv
    obtain ⟨qs0, zs0, ls0⟩ := box_set (k := 0) (.int .i64 43) p0 z0 l0 (by simp)
    obtain ⟨qs1, zs1, ls1⟩ := box_set (k := 1) (.int .i64 0) qs0 zs0 ls0 (by simp)
    obtain ⟨qs2, zs2, ls2⟩ := box_set (k := 2) (.int .i64 0) qs1 zs1 ls1 (by simp)
    obtain ⟨qs3, zs3, ls3⟩ := box_set (k := 3) (.int .i64 c') qs2 zs2 ls2 (by simp)
    obtain ⟨qs4, zs4, ls4⟩ := box_set (k := 4) (.int .i64 o') qs3 zs3 ls3 (by simp)
    have hbs := ((((hbw.setCell (p := ⟨w.heap.size, 0, none⟩) (Nat.le_refl _) (.int .i64 43)).setCell (p := ⟨w.heap.size, 1, none⟩) (Nat.le_refl _) (.int .i64 0)).setCell (p := ⟨w.heap.size, 2, none⟩) (Nat.le_refl _) (.int .i64 0)).setCell (p := ⟨w.heap.size, 3, none⟩) (Nat.le_refl _) (.int .i64 c')).setCell (p := ⟨w.heap.size, 4, none⟩) (Nat.le_refl _) (.int .i64 o')
    go_wp2_with fail
    refine (enc43 _ _ h1 h2 h3 h4 _).mono ?_
    rintro e w2 ⟨b, off, rfl, hB, d0, d1, d2, d3, hb2⟩
    have hbx := ext_trans hbs hb2
    clear hb2 hbs hbw
    go_wp2_with fail
    refine (awake_any _).mono ?_
    rintro e w3 ⟨rfl, hb3⟩
    go_wp2
    go_ret
    exact ⟨rfl, ext_trans hbx hb3⟩
  · have HV := Lib.hid hv; clear hv
    obtain ⟨qs0, zs0, ls0⟩ := box_set (k := 0) (.int .i64 f') p0 z0 l0 (by simp)
    obtain ⟨qs1, zs1, ls1⟩ := box_set (k := 1) (.int .i64 a') qs0 zs0 ls0 (by simp)
    obtain ⟨qs2, zs2, ls2⟩ := box_set (k := 2) (.int .i64 n') qs1 zs1 ls1 (by simp)
    obtain ⟨qs3, zs3, ls3⟩ := box_set (k := 3) (.int .i64 0) qs2 zs2 ls2 (by simp)
    obtain ⟨qs4, zs4, ls4⟩ := box_set (k := 4) (.int .i64 0) qs3 zs3 ls3 (by simp)
    have hbs := ((((hbw.setCell (p := ⟨w.heap.size, 0, none⟩) (Nat.le_refl _) (.int .i64 f')).setCell (p := ⟨w.heap.size, 1, none⟩) (Nat.le_refl _) (.int .i64 a')).setCell (p := ⟨w.heap.size, 2, none⟩) (Nat.le_refl _) (.int .i64 n')).setCell (p := ⟨w.heap.size, 3, none⟩) (Nat.le_refl _) (.int .i64 0)).setCell (p := ⟨w.heap.size, 4, none⟩) (Nat.le_refl _) (.int .i64 0)
    go_wp2_with fail
    refine (encT _ _ _ h1 h2 HV.out _).mono ?_
    rintro e w2 ⟨b, off, rfl, hB, d0, d1, d2, d3, d4, hb2⟩
    have hbx := ext_trans hbs hb2
    clear hb2 hbs hbw
    go_wp2_with fail
    refine (awake_any _).mono ?_
    rintro e w3 ⟨rfl, hb3⟩
    go_wp2
    go_ret
    exact ⟨rfl, ext_trans hbx hb3⟩

theorem reads_any (f a n c o k x y : Int) (r : Bool) (w : World) : Calls Try.prog 6 #[qv f a n c o, .int .i64 k, .int .i64 x, .int .i64 y, .bool r] w fun e w' => e = .returned (.bool true) ∧ Below w.heap.size w w' := by
  cases r
  · exact reads_mk f a n c o k x y w
  · exact reads_raw f a n c o k x y w
end Go.Proofs.Ytiebgbdnbfahoaa
/- Layer 10: contract of Decode, the program's and the reference's, shape by shape. -/
import Derived.Test.YtiebgbdnbfahoaaReqD
import Derived.Test.YtiebgbdnbfahoaaReqR
import Derived.Test.YtiebgbdnbfahoaaBytesS
import Derived.Test.YtiebgbdnbfahoaaLib3
import Derived.Lib.EndianBits
set_option linter.unusedVariables false
set_option linter.unusedSimpArgs false
namespace Go.Proofs.Ytiebgbdnbfahoaa
open Go.RowKit

set_option maxRecDepth 100000 in
set_option maxHeartbeats 2000000 in
theorem rdec_nil (A : Option Addr) (cap : Nat) (w : World) :
    Calls Try.prog 18 #[.slice A 0 cap] w fun e w' => e = .returned (.tuple #[qv 0 0 0 0 0, .int .i64 4]) ∧ Below w.heap.size w w' := by
  go_enter Try.func18, Try.ntmps18
  go_wp2
  exact bodyPost_ret (v := .tuple #[qv 0 0 0 0 0, .int .i64 4]) (by simp [results, Try.results18, go_sem]) rfl ⟨rfl, (Below.refl _ w).alloc (Nat.le_refl _) _⟩

set_option maxRecDepth 100000 in
set_option maxHeartbeats 2000000 in
theorem rdec_other (f : Int) (b off cap n : Nat) (w : World) (hB : b < w.heap.size) (h0 : 0 ≤ f) (h255 : f ≤ 255) (hf : ¬ (1 ≤ f ∧ f ≤ 4)) (h17 : f ≠ 17) (h43 : f ≠ 43) (hn : 0 < n) (c0 : w.cell? ⟨b, off, none⟩ = some (.int .u8 f)) :
    Calls Try.prog 18 #[.slice (some ⟨b, off, none⟩) n cap] w fun e w' => e = .returned (.tuple #[qv 0 0 0 0 0, .int .i64 16]) ∧ Below w.heap.size w w' := by
  have hbw : Below w.heap.size w ((w.alloc (.cells #[.int .i64 0, .int .i64 0, .int .i64 0, .int .i64 0, .int .i64 0] 23)).alloc (.cells #[.int .i64 f, .int .i64 0, .int .i64 0, .int .i64 0, .int .i64 0] 23)) := ((Below.refl _ w).alloc (Nat.le_refl _) _).alloc (by simp) _
  have hn0 : n ≠ 0 := by omega
  rcases (show f < 1 ∨ (1 ≤ f ∧ 4 < f) by omega) with k | ⟨k0, k⟩
  all_goals
    clear hf
    first
      | have hg : decide (1 ≤ f) = false := by simp; omega
      | have hg : decide (f ≤ 4) = false := by simp; omega
    go_enter Try.func18, Try.ntmps18
    go_wp2
    exact bodyPost_ret (v := .tuple #[qv 0 0 0 0 0, .int .i64 16]) (by simp [results, Try.results18, go_sem]) rfl ⟨rfl, by assumption⟩

set_option maxRecDepth 100000 in
set_option maxHeartbeats 2000000 in
theorem rdec_tabL (f : Int) (b off cap n : Nat) (w : World) (hB : b < w.heap.size) (f1 : 1 ≤ f) (f4 : f ≤ 4) (hn : 0 < n) (hn5 : n ≠ 5) (c0 : w.cell? ⟨b, off, none⟩ = some (.int .u8 f)) :
    Calls Try.prog 18 #[.slice (some ⟨b, off, none⟩) n cap] w fun e w' => e = .returned (.tuple #[qv 0 0 0 0 0, .int .i64 4]) ∧ Below w.heap.size w w' := by
  have hbw : Below w.heap.size w ((w.alloc (.cells #[.int .i64 0, .int .i64 0, .int .i64 0, .int .i64 0, .int .i64 0] 23)).alloc (.cells #[.int .i64 f, .int .i64 0, .int .i64 0, .int .i64 0, .int .i64 0] 23)) := ((Below.refl _ w).alloc (Nat.le_refl _) _).alloc (by simp) _
  have hn0 : n ≠ 0 := by omega
  have hn5' : ((n : Int) == 5) = false := by simp; omega
  go_enter Try.func18, Try.ntmps18
  go_wp2
  exact bodyPost_ret (v := .tuple #[qv 0 0 0 0 0, .int .i64 4]) (by simp [results, Try.results18, go_sem]) rfl ⟨rfl, by assumption⟩

set_option maxRecDepth 100000 in
set_option maxHeartbeats 2000000 in
theorem rdec_srvL (z : Int) (b off cap n : Nat) (w : World) (hB : b < w.heap.size) (hz : z = 0) (hn : 0 < n) (hn1 : n ≠ 1) (c0 : w.cell? ⟨b, off, none⟩ = some (.int .u8 17)) :
    Calls Try.prog 18 #[.slice (some ⟨b, off, none⟩) n cap] w fun e w' => e = .returned (.tuple #[qv 0 0 0 0 0, .int .i64 4]) ∧ Below w.heap.size w w' := by
  have hbw : Below w.heap.size w ((w.alloc (.cells #[.int .i64 0, .int .i64 0, .int .i64 0, .int .i64 0, .int .i64 0] 23)).alloc (.cells #[.int .i64 17, .int .i64 0, .int .i64 0, .int .i64 0, .int .i64 0] 23)) := ((Below.refl _ w).alloc (Nat.le_refl _) _).alloc (by simp) _
  have hn0 : n ≠ 0 := by omega
  have hn1' : ((n : Int) == 1) = false := by simp; omega
  go_enter Try.func18, Try.ntmps18
  go_wp2
  exact bodyPost_ret (v := .tuple #[qv 0 0 0 0 0, .int .i64 4]) (by simp [results, Try.results18, go_sem]) rfl ⟨rfl, by assumption⟩

set_option maxRecDepth 100000 in
set_option maxHeartbeats 2000000 in
theorem rdec_devL (z : Int) (b off cap n : Nat) (w : World) (hB : b < w.heap.size) (hz : z = 0) (hn : 0 < n) (hn4 : n ≠ 4) (c0 : w.cell? ⟨b, off, none⟩ = some (.int .u8 43)) :
    Calls Try.prog 18 #[.slice (some ⟨b, off, none⟩) n cap] w fun e w' => e = .returned (.tuple #[qv 0 0 0 0 0, .int .i64 4]) ∧ Below w.heap.size w w' := by
  have hbw : Below w.heap.size w ((w.alloc (.cells #[.int .i64 0, .int .i64 0, .int .i64 0, .int .i64 0, .int .i64 0] 23)).alloc (.cells #[.int .i64 43, .int .i64 0, .int .i64 0, .int .i64 0, .int .i64 0] 23)) := ((Below.refl _ w).alloc (Nat.le_refl _) _).alloc (by simp) _
  have hn0 : n ≠ 0 := by omega
  have hn4' : ((n : Int) == 4) = false := by simp; omega
  go_enter Try.func18, Try.ntmps18
  go_wp2
  exact bodyPost_ret (v := .tuple #[qv 0 0 0 0 0, .int .i64 4]) (by simp [results, Try.results18, go_sem]) rfl ⟨rfl, by assumption⟩

set_option maxRecDepth 100000 in
set_option maxHeartbeats 2000000 in
theorem rdec_devK (k : Int) (b off cap : Nat) (w : World) (hB : b < w.heap.size) (hk : k ≠ 14) (c0 : w.cell? ⟨b, off, none⟩ = some (.int .u8 43)) (c1 : w.cell? ⟨b, off + 1, none⟩ = some (.int .u8 k)) :
    Calls Try.prog 18 #[.slice (some ⟨b, off, none⟩) 4 cap] w fun e w' => e = .returned (.tuple #[qv 0 0 0 0 0, .int .i64 6]) ∧ Below w.heap.size w w' := by
  have hbw : Below w.heap.size w ((w.alloc (.cells #[.int .i64 0, .int .i64 0, .int .i64 0, .int .i64 0, .int .i64 0] 23)).alloc (.cells #[.int .i64 43, .int .i64 0, .int .i64 0, .int .i64 0, .int .i64 0] 23)) := ((Below.refl _ w).alloc (Nat.le_refl _) _).alloc (by simp) _
  have hk' : (k == 14) = false := by simpa using hk
  go_enter Try.func18, Try.ntmps18
  go_wp2
  exact bodyPost_ret (v := .tuple #[qv 0 0 0 0 0, .int .i64 6]) (by simp [results, Try.results18, go_sem]) rfl ⟨rfl, by assumption⟩

set_option maxRecDepth 100000 in
set_option maxHeartbeats 2000000 in
theorem rdec_srvY (z : Int) (b off cap : Nat) (w : World) (hB : b < w.heap.size) (hz : z = 0) (c0 : w.cell? ⟨b, off, none⟩ = some (.int .u8 17)) :
    Calls Try.prog 18 #[.slice (some ⟨b, off, none⟩) 1 cap] w fun e w' => e = .returned (.tuple #[qv 17 0 0 0 0, .int .i64 0]) ∧ Below w.heap.size w w' := by
  have hv : vq 17 0 0 0 0 = true := by decide
  have hvv : ∀ w, Calls Try.prog 10 #[qv 17 0 0 0 0] w fun e w' => e = .returned (.bool true) ∧ Below w.heap.size w w' := fun w => hv ▸ rvalid_any 17 0 0 0 0 w
  have HV := Lib.hid hvv; clear hvv hv
  go_enter Try.func18, Try.ntmps18
  go_wp2_with fail
  refine (HV.out _).mono ?_
  rintro e w1 ⟨rfl, hb1⟩
  obtain ⟨q1, q2, z1, l1, l2, hbw⟩ := box2 hb1
  clear hb1
  go_wp2
  obtain ⟨qs0, zs0, ls0⟩ := box_set (k := 0) (.int .i64 17) q1 z1 l1 (by simp)
  obtain ⟨qs1, zs1, ls1⟩ := box_set (k := 1) (.int .i64 0) qs0 zs0 ls0 (by simp)
  obtain ⟨qs2, zs2, ls2⟩ := box_set (k := 2) (.int .i64 0) qs1 zs1 ls1 (by simp)
  obtain ⟨qs3, zs3, ls3⟩ := box_set (k := 3) (.int .i64 0) qs2 zs2 ls2 (by simp)
  obtain ⟨qs4, zs4, ls4⟩ := box_set (k := 4) (.int .i64 0) qs3 zs3 ls3 (by simp)
  exact bodyPost_ret (v := .tuple #[qv 17 0 0 0 0, .int .i64 0]) (by simp [results, Try.results18, go_sem, qs0, qs1, qs2, qs3, qs4]) rfl ⟨rfl, (((((hbw.setCell (Nat.le_refl _) _).setCell (Nat.le_refl _) _).setCell (Nat.le_refl _) _).setCell (Nat.le_refl _) _).setCell (Nat.le_refl _) _)⟩

set_option maxRecDepth 100000 in
set_option maxHeartbeats 2000000 in
theorem rdec_devY (c o : Int) (b off cap : Nat) (w : World) (hB : b < w.heap.size) (hv : vq 43 0 0 c o = true) (hc : 0 ≤ c ∧ c ≤ 255) (ho : 0 ≤ o ∧ o ≤ 255) (c0 : w.cell? ⟨b, off, none⟩ = some (.int .u8 43)) (c1 : w.cell? ⟨b, off + 1, none⟩ = some (.int .u8 14)) (c2 : w.cell? ⟨b, off + 2, none⟩ = some (.int .u8 c)) (c3 : w.cell? ⟨b, off + 3, none⟩ = some (.int .u8 o)) :
    Calls Try.prog 18 #[.slice (some ⟨b, off, none⟩) 4 cap] w fun e w' => e = .returned (.tuple #[qv 43 0 0 c o, .int .i64 0]) ∧ Below w.heap.size w w' := by
  obtain ⟨c0', c1'⟩ := hc
  obtain ⟨o0', o1'⟩ := ho
  have hvv : ∀ w, Calls Try.prog 10 #[qv 43 0 0 c o] w fun e w' => e = .returned (.bool true) ∧ Below w.heap.size w w' := fun w => hv ▸ rvalid_any 43 0 0 c o w
  have HV := Lib.hid hvv; clear hvv hv
  go_enter Try.func18, Try.ntmps18
  go_wp2
  go_region
  go_wp2_with fail
  refine (HV.out _).mono ?_
  rintro e w1 ⟨rfl, hb1⟩
  have hb2 := ((Below.refl _ (((w.alloc (.cells #[.int .i64 0, .int .i64 0, .int .i64 0, .int .i64 0, .int .i64 0] 23)).alloc (.cells #[.int .i64 43, .int .i64 0, .int .i64 0, .int .i64 c, .int .i64 o] 23)))).drew).trans hb1
  obtain ⟨q1, q2, z1, l1, l2, hbw⟩ := box2 hb2
  clear hb1 hb2
  go_wp2
  obtain ⟨qs0, zs0, ls0⟩ := box_set (k := 0) (.int .i64 43) q1 z1 l1 (by simp)
  obtain ⟨qs1, zs1, ls1⟩ := box_set (k := 1) (.int .i64 0) qs0 zs0 ls0 (by simp)
  obtain ⟨qs2, zs2, ls2⟩ := box_set (k := 2) (.int .i64 0) qs1 zs1 ls1 (by simp)
  obtain ⟨qs3, zs3, ls3⟩ := box_set (k := 3) (.int .i64 c) qs2 zs2 ls2 (by simp)
  obtain ⟨qs4, zs4, ls4⟩ := box_set (k := 4) (.int .i64 o) qs3 zs3 ls3 (by simp)
  exact bodyPost_ret (v := .tuple #[qv 43 0 0 c o, .int .i64 0]) (by simp [results, Try.results18, go_sem, qs0, qs1, qs2, qs3, qs4]) rfl ⟨rfl, (((((hbw.setCell (Nat.le_refl _) _).setCell (Nat.le_refl _) _).setCell (Nat.le_refl _) _).setCell (Nat.le_refl _) _).setCell (Nat.le_refl _) _)⟩

set_option maxRecDepth 100000 in
set_option maxHeartbeats 2000000 in
theorem rdec_tabY (f p q s t a m : Int) (b off cap : Nat) (w : World) (hB : b < w.heap.size) (f1 : 1 ≤ f) (f4 : f ≤ 4) (hp : 0 ≤ p ∧ p ≤ 255) (hq : 0 ≤ q ∧ q ≤ 255) (hs : 0 ≤ s ∧ s ≤ 255) (ht : 0 ≤ t ∧ t ≤ 255) (ha : p * 256 + q = a) (hm : s * 256 + t = m) (hv : vq f a m 0 0 = true) (c0 : w.cell? ⟨b, off, none⟩ = some (.int .u8 f)) (c1 : w.cell? ⟨b, off + 1, none⟩ = some (.int .u8 p)) (c2 : w.cell? ⟨b, off + 2, none⟩ = some (.int .u8 q)) (c3 : w.cell? ⟨b, off + 3, none⟩ = some (.int .u8 s)) (c4 : w.cell? ⟨b, off + 4, none⟩ = some (.int .u8 t)) :
    Calls Try.prog 18 #[.slice (some ⟨b, off, none⟩) 5 cap] w fun e w' => e = .returned (.tuple #[qv f a m 0 0, .int .i64 0]) ∧ Below w.heap.size w w' := by
  obtain ⟨p0, p1⟩ := hp
  obtain ⟨q0, q1⟩ := hq
  obtain ⟨s0, s1⟩ := hs
  obtain ⟨t0, t1⟩ := ht
  have f17 : f ≠ 17 := by omega
  have f43 : f ≠ 43 := by omega
  have HE1 := Lib.hid (show 256 * p + q = a by omega); have HE2 := Lib.hid (show 256 * s + t = m by omega); clear ha hm
  have hvv : ∀ w, Calls Try.prog 10 #[qv f a m 0 0] w fun e w' => e = .returned (.bool true) ∧ Below w.heap.size w w' := fun w => hv ▸ rvalid_any f a m 0 0 w
  have HV := Lib.hid hvv; clear hvv hv
  go_enter Try.func18, Try.ntmps18
  go_wp2
  go_region
  go_wp2_with fail
  rw [HE1.out, HE2.out]
  go_wp2_with fail
  refine (HV.out _).mono ?_
  rintro e w1 ⟨rfl, hb1⟩
  have hb2 := ((Below.refl _ (((w.alloc (.cells #[.int .i64 0, .int .i64 0, .int .i64 0, .int .i64 0, .int .i64 0] 23)).alloc (.cells #[.int .i64 f, .int .i64 a, .int .i64 m, .int .i64 0, .int .i64 0] 23)))).drew).trans hb1
  obtain ⟨q1, q2, z1, l1, l2, hbw⟩ := box2 hb2
  clear hb1 hb2
  go_wp2
  obtain ⟨qs0, zs0, ls0⟩ := box_set (k := 0) (.int .i64 f) q1 z1 l1 (by simp)
  obtain ⟨qs1, zs1, ls1⟩ := box_set (k := 1) (.int .i64 a) qs0 zs0 ls0 (by simp)
  obtain ⟨qs2, zs2, ls2⟩ := box_set (k := 2) (.int .i64 m) qs1 zs1 ls1 (by simp)
  obtain ⟨qs3, zs3, ls3⟩ := box_set (k := 3) (.int .i64 0) qs2 zs2 ls2 (by simp)
  obtain ⟨qs4, zs4, ls4⟩ := box_set (k := 4) (.int .i64 0) qs3 zs3 ls3 (by simp)
  exact bodyPost_ret (v := .tuple #[qv f a m 0 0, .int .i64 0]) (by simp [results, Try.results18, go_sem, qs0, qs1, qs2, qs3, qs4]) rfl ⟨rfl, (((((hbw.setCell (Nat.le_refl _) _).setCell (Nat.le_refl _) _).setCell (Nat.le_refl _) _).setCell (Nat.le_refl _) _).setCell (Nat.le_refl _) _)⟩

set_option maxRecDepth 100000 in
set_option maxHeartbeats 2000000 in
theorem rdec_devN (c o : Int) (b off cap : Nat) (w : World) (hB : b < w.heap.size) (hv : vq 43 0 0 c o = false) (hc : 0 ≤ c ∧ c ≤ 255) (ho : 0 ≤ o ∧ o ≤ 255) (c0 : w.cell? ⟨b, off, none⟩ = some (.int .u8 43)) (c1 : w.cell? ⟨b, off + 1, none⟩ = some (.int .u8 14)) (c2 : w.cell? ⟨b, off + 2, none⟩ = some (.int .u8 c)) (c3 : w.cell? ⟨b, off + 3, none⟩ = some (.int .u8 o)) :
    Calls Try.prog 18 #[.slice (some ⟨b, off, none⟩) 4 cap] w fun e w' => e = .returned (.tuple #[qv 0 0 0 0 0, .int .i64 3]) ∧ Below w.heap.size w w' := by
  obtain ⟨c0', c1'⟩ := hc
  obtain ⟨o0', o1'⟩ := ho
  have hvv : ∀ w, Calls Try.prog 10 #[qv 43 0 0 c o] w fun e w' => e = .returned (.bool false) ∧ Below w.heap.size w w' := fun w => hv ▸ rvalid_any 43 0 0 c o w
  have HV := Lib.hid hvv; clear hvv hv
  go_enter Try.func18, Try.ntmps18
  go_wp2
  go_region
  go_wp2_with fail
  refine (HV.out _).mono ?_
  rintro e w1 ⟨rfl, hb1⟩
  have hb2 := ((Below.refl _ (((w.alloc (.cells #[.int .i64 0, .int .i64 0, .int .i64 0, .int .i64 0, .int .i64 0] 23)).alloc (.cells #[.int .i64 43, .int .i64 0, .int .i64 0, .int .i64 c, .int .i64 o] 23)))).drew).trans hb1
  obtain ⟨q1, q2, z1, l1, l2, hbw⟩ := box2 hb2
  clear hb1 hb2
  go_wp2
  obtain ⟨qs0, zs0, ls0⟩ := box_set (k := 0) (.int .i64 0) q1 z1 l1 (by simp)
  obtain ⟨qs1, zs1, ls1⟩ := box_set (k := 1) (.int .i64 0) qs0 zs0 ls0 (by simp)
  obtain ⟨qs2, zs2, ls2⟩ := box_set (k := 2) (.int .i64 0) qs1 zs1 ls1 (by simp)
  obtain ⟨qs3, zs3, ls3⟩ := box_set (k := 3) (.int .i64 0) qs2 zs2 ls2 (by simp)
  obtain ⟨qs4, zs4, ls4⟩ := box_set (k := 4) (.int .i64 0) qs3 zs3 ls3 (by simp)
  exact bodyPost_ret (v := .tuple #[qv 0 0 0 0 0, .int .i64 3]) (by simp [results, Try.results18, go_sem, qs0, qs1, qs2, qs3, qs4]) rfl ⟨rfl, (((((hbw.setCell (Nat.le_refl _) _).setCell (Nat.le_refl _) _).setCell (Nat.le_refl _) _).setCell (Nat.le_refl _) _).setCell (Nat.le_refl _) _)⟩

set_option maxRecDepth 100000 in
set_option maxHeartbeats 2000000 in
theorem rdec_tabN (f p q s t a m : Int) (b off cap : Nat) (w : World) (hB : b < w.heap.size) (f1 : 1 ≤ f) (f4 : f ≤ 4) (hp : 0 ≤ p ∧ p ≤ 255) (hq : 0 ≤ q ∧ q ≤ 255) (hs : 0 ≤ s ∧ s ≤ 255) (ht : 0 ≤ t ∧ t ≤ 255) (ha : p * 256 + q = a) (hm : s * 256 + t = m) (hv : vq f a m 0 0 = false) (c0 : w.cell? ⟨b, off, none⟩ = some (.int .u8 f)) (c1 : w.cell? ⟨b, off + 1, none⟩ = some (.int .u8 p)) (c2 : w.cell? ⟨b, off + 2, none⟩ = some (.int .u8 q)) (c3 : w.cell? ⟨b, off + 3, none⟩ = some (.int .u8 s)) (c4 : w.cell? ⟨b, off + 4, none⟩ = some (.int .u8 t)) :
    Calls Try.prog 18 #[.slice (some ⟨b, off, none⟩) 5 cap] w fun e w' => e = .returned (.tuple #[qv 0 0 0 0 0, .int .i64 3]) ∧ Below w.heap.size w w' := by
  obtain ⟨p0, p1⟩ := hp
  obtain ⟨q0, q1⟩ := hq
  obtain ⟨s0, s1⟩ := hs
  obtain ⟨t0, t1⟩ := ht
  have f17 : f ≠ 17 := by omega
  have f43 : f ≠ 43 := by omega
  have HE1 := Lib.hid (show 256 * p + q = a by omega); have HE2 := Lib.hid (show 256 * s + t = m by omega); clear ha hm
  have hvv : ∀ w, Calls Try.prog 10 #[qv f a m 0 0] w fun e w' => e = .returned (.bool false) ∧ Below w.heap.size w w' := fun w => hv ▸ rvalid_any f a m 0 0 w
  have HV := Lib.hid hvv; clear hvv hv
  go_enter Try.func18, Try.ntmps18
  go_wp2
  go_region
  go_wp2_with fail
  rw [HE1.out, HE2.out]
  go_wp2_with fail
  refine (HV.out _).mono ?_
  rintro e w1 ⟨rfl, hb1⟩
  have hb2 := ((Below.refl _ (((w.alloc (.cells #[.int .i64 0, .int .i64 0, .int .i64 0, .int .i64 0, .int .i64 0] 23)).alloc (.cells #[.int .i64 f, .int .i64 a, .int .i64 m, .int .i64 0, .int .i64 0] 23)))).drew).trans hb1
  obtain ⟨q1, q2, z1, l1, l2, hbw⟩ := box2 hb2
  clear hb1 hb2
  go_wp2
  obtain ⟨qs0, zs0, ls0⟩ := box_set (k := 0) (.int .i64 0) q1 z1 l1 (by simp)
  obtain ⟨qs1, zs1, ls1⟩ := box_set (k := 1) (.int .i64 0) qs0 zs0 ls0 (by simp)
  obtain ⟨qs2, zs2, ls2⟩ := box_set (k := 2) (.int .i64 0) qs1 zs1 ls1 (by simp)
  obtain ⟨qs3, zs3, ls3⟩ := box_set (k := 3) (.int .i64 0) qs2 zs2 ls2 (by simp)
  obtain ⟨qs4, zs4, ls4⟩ := box_set (k := 4) (.int .i64 0) qs3 zs3 ls3 (by simp)
  exact bodyPost_ret (v := .tuple #[qv 0 0 0 0 0, .int .i64 3]) (by simp [results, Try.results18, go_sem, qs0, qs1, qs2, qs3, qs4]) rfl ⟨rfl, (((((hbw.setCell (Nat.le_refl _) _).setCell (Nat.le_refl _) _).setCell (Nat.le_refl _) _).setCell (Nat.le_refl _) _).setCell (Nat.le_refl _) _)⟩

end Go.Proofs.Ytiebgbdnbfahoaa

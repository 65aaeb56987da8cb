/- Layer 10: contract of Decode, the program's and the reference's, shape by shape. -/
import Derived.Test.YtoliplochipoeaaTReqV
import Derived.Test.YtoliplochipoeaaTReqV
import Derived.Test.YtoliplochipoeaaBytes
import Derived.Test.YtoliplochipoeaaLib3
import Derived.Lib.EndianBits
set_option linter.unusedVariables false
set_option linter.unusedSimpArgs false
namespace Go.Proofs.Ytoliplochipoeaa
open Go.RowKit

theorem Rd.get8 {w : World} {B n : Nat} {A : Option Addr} {xs : List Int} (h : Rd w B 1 A n (by8 xs)) (hn : 0 < n) : ∃ b off, A = some ⟨b, off, none⟩ ∧ b < B ∧ ∀ k x, xs[k]? = some x → w.cell? ⟨b, off + k, none⟩ = some (.int .u8 x) := by
  obtain ⟨b, off, e, hb, hc⟩ := h.2 hn
  exact ⟨b, off, e, hb, fun k x hk => hc k _ (by simp [hk])⟩
theorem Rd.len8 {w : World} {B n : Nat} {A : Option Addr} {xs : List Int} (h : Rd w B 1 A n (by8 xs)) : xs.length = n := by have := h.1; simpa using this
theorem orI (p q : Int) (hp : 0 ≤ p) (hp' : p ≤ 255) (hq : 0 ≤ q) (hq' : q ≤ 255) : bits BinOp.or IntKind.i64 (p * 256) q = p * 256 + q :=
  bits_join .i64 16 (by decide) (fun n h1 h2 => by simp [IntKind.wrap, IntKind.bits, IntKind.signed]; omega) 8 (p * 256) q (by omega) (by omega) (by omega) hq (by omega) (by omega)
theorem box2 {w w1 : World} {xs ys : Array Value} {e f : TypeId} (hb : Below ((w.alloc (.cells xs e)).alloc (.cells ys f)).heap.size ((w.alloc (.cells xs e)).alloc (.cells ys f)) w1) :
    (∀ i, w1.cell? ⟨w.heap.size, i, none⟩ = xs[i]?) ∧ (∀ i, w1.cell? ⟨w.heap.size + 1, i, none⟩ = ys[i]?) ∧ (∀ i, w1.frozen? ⟨w.heap.size, i, none⟩ = false) ∧ w.heap.size < w1.heap.size ∧ w.heap.size + 1 < w1.heap.size ∧ Below w.heap.size w w1 := by
  obtain ⟨q1, z1, l1⟩ := box_new (Below.refl _ (w.alloc (.cells xs e)))
  obtain ⟨q2, z2, l2⟩ := box_keep q1 z1 l1 ((Below.refl _ (w.alloc (.cells xs e))).alloc (Nat.le_refl _) (.cells ys f))
  obtain ⟨q3, z3, l3⟩ := box_keep q2 z2 l2 hb
  obtain ⟨q4, z4, l4⟩ := box_new hb
  exact ⟨q3, by simpa using q4, z3, l3, by simpa using l4, ext_alloc' ((Below.refl _ w).alloc (Nat.le_refl _) (.cells xs e)) (by simpa using hb)⟩

set_option maxRecDepth 100000 in
set_option maxHeartbeats 2000000 in
theorem dec_nil (A : Option Addr) (cap : Nat) (w : World) :
    Calls Try.prog 15 #[.slice A 0 cap] w fun e w' => e = .returned (.tuple #[qv 0 0 0 0 0, .int .i64 4]) ∧ Below w.heap.size w w' := by
  go_enter Try.func15, Try.ntmps15
  go_wp2
  exact bodyPost_ret (v := .tuple #[qv 0 0 0 0 0, .int .i64 4]) (by simp [results, Try.results15, go_sem]) rfl ⟨rfl, (Below.refl _ w).alloc (Nat.le_refl _) _⟩

set_option maxRecDepth 100000 in
set_option maxHeartbeats 2000000 in
theorem dec_other (f : Int) (b off cap n : Nat) (w : World) (hB : b < w.heap.size) (h0 : 0 ≤ f) (h255 : f ≤ 255) (hf : ¬ (1 ≤ f ∧ f ≤ 4)) (h17 : f ≠ 17) (h43 : f ≠ 43) (hn : 0 < n) (c0 : w.cell? ⟨b, off, none⟩ = some (.int .u8 f)) :
    Calls Try.prog 15 #[.slice (some ⟨b, off, none⟩) n cap] w fun e w' => e = .returned (.tuple #[qv 0 0 0 0 0, .int .i64 16]) ∧ Below w.heap.size w w' := by
  have htab : ∀ w, Calls Try.prog 37 #[.int .i64 f] w fun e w' => e = .returned (.bool false) ∧ w = w' := fun w => by
    have := istab_any f w
    rw [show tabB f = false by simp [tabB]; omega] at this
    exact this
  have HT := Lib.hid htab; clear htab
  have hbw : Below w.heap.size w ((w.alloc (.cells #[.int .i64 0, .int .i64 0, .int .i64 0, .int .i64 0, .int .i64 0] 29)).alloc (.cells #[.int .i64 f, .int .i64 0, .int .i64 0, .int .i64 0, .int .i64 0] 29)) := ((Below.refl _ w).alloc (Nat.le_refl _) _).alloc (by simp) _
  have hn0 : n ≠ 0 := by omega
  clear hf
  go_enter Try.func15, Try.ntmps15
  go_wp2_with fail
  go_in
  go_wp2_with fail
  refine (HT.out _).mono ?_
  rintro e w' ⟨rfl, rfl⟩
  go_wp2
  exact bodyPost_ret (v := .tuple #[qv 0 0 0 0 0, .int .i64 16]) (by simp [results, Try.results15, go_sem]) rfl ⟨rfl, by assumption⟩

set_option maxRecDepth 100000 in
set_option maxHeartbeats 2000000 in
theorem dec_tabL (f : Int) (b off cap n : Nat) (w : World) (hB : b < w.heap.size) (f1 : 1 ≤ f) (f4 : f ≤ 4) (hn : 0 < n) (hn5 : n ≠ 5) (c0 : w.cell? ⟨b, off, none⟩ = some (.int .u8 f)) :
    Calls Try.prog 15 #[.slice (some ⟨b, off, none⟩) n cap] w fun e w' => e = .returned (.tuple #[qv 0 0 0 0 0, .int .i64 4]) ∧ Below w.heap.size w w' := by
  have htab : ∀ w, Calls Try.prog 37 #[.int .i64 f] w fun e w' => e = .returned (.bool true) ∧ w = w' := fun w => by
    have := istab_any f w
    rw [show tabB f = true by simp [tabB]; omega] at this
    exact this
  have HT := Lib.hid htab; clear htab
  have hbw : Below w.heap.size w ((w.alloc (.cells #[.int .i64 0, .int .i64 0, .int .i64 0, .int .i64 0, .int .i64 0] 29)).alloc (.cells #[.int .i64 f, .int .i64 0, .int .i64 0, .int .i64 0, .int .i64 0] 29)) := ((Below.refl _ w).alloc (Nat.le_refl _) _).alloc (by simp) _
  have hn0 : n ≠ 0 := by omega
  have hn5' : ((n : Int) == 5) = false := by simp; omega
  go_enter Try.func15, Try.ntmps15
  go_wp2_with fail
  go_in
  go_wp2_with fail
  refine (HT.out _).mono ?_
  rintro e w' ⟨rfl, rfl⟩
  go_wp2
  exact bodyPost_ret (v := .tuple #[qv 0 0 0 0 0, .int .i64 4]) (by simp [results, Try.results15, go_sem]) rfl ⟨rfl, by assumption⟩

set_option maxRecDepth 100000 in
set_option maxHeartbeats 2000000 in
theorem dec_srvL (z : Int) (b off cap n : Nat) (w : World) (hB : b < w.heap.size) (hz : z = 0) (hn : 0 < n) (hn1 : n ≠ 1) (c0 : w.cell? ⟨b, off, none⟩ = some (.int .u8 17)) :
    Calls Try.prog 15 #[.slice (some ⟨b, off, none⟩) n cap] w fun e w' => e = .returned (.tuple #[qv 0 0 0 0 0, .int .i64 4]) ∧ Below w.heap.size w w' := by
  have htab : ∀ w, Calls Try.prog 37 #[.int .i64 17] w fun e w' => e = .returned (.bool false) ∧ w = w' := fun w => istab_any 17 w
  have HT := Lib.hid htab; clear htab
  have hbw : Below w.heap.size w ((w.alloc (.cells #[.int .i64 0, .int .i64 0, .int .i64 0, .int .i64 0, .int .i64 0] 29)).alloc (.cells #[.int .i64 17, .int .i64 0, .int .i64 0, .int .i64 0, .int .i64 0] 29)) := ((Below.refl _ w).alloc (Nat.le_refl _) _).alloc (by simp) _
  have hn0 : n ≠ 0 := by omega
  have hn1' : ((n : Int) == 1) = false := by simp; omega
  go_enter Try.func15, Try.ntmps15
  go_wp2_with fail
  go_in
  go_wp2_with fail
  refine (HT.out _).mono ?_
  rintro e w' ⟨rfl, rfl⟩
  go_wp2
  exact bodyPost_ret (v := .tuple #[qv 0 0 0 0 0, .int .i64 4]) (by simp [results, Try.results15, go_sem]) rfl ⟨rfl, by assumption⟩

set_option maxRecDepth 100000 in
set_option maxHeartbeats 2000000 in
theorem dec_devL (z : Int) (b off cap n : Nat) (w : World) (hB : b < w.heap.size) (hz : z = 0) (hn : 0 < n) (hn4 : n ≠ 4) (c0 : w.cell? ⟨b, off, none⟩ = some (.int .u8 43)) :
    Calls Try.prog 15 #[.slice (some ⟨b, off, none⟩) n cap] w fun e w' => e = .returned (.tuple #[qv 0 0 0 0 0, .int .i64 4]) ∧ Below w.heap.size w w' := by
  have htab : ∀ w, Calls Try.prog 37 #[.int .i64 43] w fun e w' => e = .returned (.bool false) ∧ w = w' := fun w => istab_any 43 w
  have HT := Lib.hid htab; clear htab
  have hbw : Below w.heap.size w ((w.alloc (.cells #[.int .i64 0, .int .i64 0, .int .i64 0, .int .i64 0, .int .i64 0] 29)).alloc (.cells #[.int .i64 43, .int .i64 0, .int .i64 0, .int .i64 0, .int .i64 0] 29)) := ((Below.refl _ w).alloc (Nat.le_refl _) _).alloc (by simp) _
  have hn0 : n ≠ 0 := by omega
  have hn4' : ((n : Int) == 4) = false := by simp; omega
  go_enter Try.func15, Try.ntmps15
  go_wp2_with fail
  go_in
  go_wp2_with fail
  refine (HT.out _).mono ?_
  rintro e w' ⟨rfl, rfl⟩
  go_wp2
  exact bodyPost_ret (v := .tuple #[qv 0 0 0 0 0, .int .i64 4]) (by simp [results, Try.results15, go_sem]) rfl ⟨rfl, by assumption⟩

set_option maxRecDepth 100000 in
set_option maxHeartbeats 2000000 in
theorem dec_devK (k : Int) (b off cap : Nat) (w : World) (hB : b < w.heap.size) (hk : k ≠ 14) (c0 : w.cell? ⟨b, off, none⟩ = some (.int .u8 43)) (c1 : w.cell? ⟨b, off + 1, none⟩ = some (.int .u8 k)) :
    Calls Try.prog 15 #[.slice (some ⟨b, off, none⟩) 4 cap] w fun e w' => e = .returned (.tuple #[qv 0 0 0 0 0, .int .i64 6]) ∧ Below w.heap.size w w' := by
  have htab : ∀ w, Calls Try.prog 37 #[.int .i64 43] w fun e w' => e = .returned (.bool false) ∧ w = w' := fun w => istab_any 43 w
  have HT := Lib.hid htab; clear htab
  have hbw : Below w.heap.size w ((w.alloc (.cells #[.int .i64 0, .int .i64 0, .int .i64 0, .int .i64 0, .int .i64 0] 29)).alloc (.cells #[.int .i64 43, .int .i64 0, .int .i64 0, .int .i64 0, .int .i64 0] 29)) := ((Below.refl _ w).alloc (Nat.le_refl _) _).alloc (by simp) _
  have hk' : (k == 14) = false := by simpa using hk
  go_enter Try.func15, Try.ntmps15
  go_wp2_with fail
  go_in
  go_wp2_with fail
  refine (HT.out _).mono ?_
  rintro e w' ⟨rfl, rfl⟩
  go_wp2
  exact bodyPost_ret (v := .tuple #[qv 0 0 0 0 0, .int .i64 6]) (by simp [results, Try.results15, go_sem]) rfl ⟨rfl, by assumption⟩

set_option maxRecDepth 100000 in
set_option maxHeartbeats 2000000 in
theorem dec_srvY (z : Int) (b off cap : Nat) (w : World) (hB : b < w.heap.size) (hz : z = 0) (c0 : w.cell? ⟨b, off, none⟩ = some (.int .u8 17)) :
    Calls Try.prog 15 #[.slice (some ⟨b, off, none⟩) 1 cap] w fun e w' => e = .returned (.tuple #[qv 17 0 0 0 0, .int .i64 0]) ∧ Below w.heap.size w w' := by
  have hv : vq 17 0 0 0 0 = true := by decide
  have htab : ∀ w, Calls Try.prog 37 #[.int .i64 17] w fun e w' => e = .returned (.bool false) ∧ w = w' := fun w => istab_any 17 w
  have HT := Lib.hid htab; clear htab
  have hvv : ∀ w, Calls Try.prog 22 #[qv 17 0 0 0 0] w fun e w' => e = .returned (.bool true) ∧ Below w.heap.size w w' := fun w => hv ▸ qvalid_any 17 0 0 0 0 w
  have HV := Lib.hid hvv; clear hvv hv
  go_enter Try.func15, Try.ntmps15
  go_wp2_with fail
  go_in
  go_wp2_with fail
  refine (HT.out _).mono ?_
  rintro e w' ⟨rfl, rfl⟩
  go_wp2_with fail
  refine (HT.out _).mono ?_
  rintro e w' ⟨rfl, rfl⟩
  go_wp2_with fail
  refine (HV.out _).mono ?_
  rintro e w1 ⟨rfl, hb1⟩
  obtain ⟨q1, q2, z1, l1, l2, hbw⟩ := box2 hb1
  clear hb1
  go_wp2
  obtain ⟨qs0, zs0, ls0⟩ := box_set (k := 0) (.int .i64 17) q1 z1 l1 (by simp)
  obtain ⟨qs1, zs1, ls1⟩ := box_set (k := 1) (.int .i64 0) qs0 zs0 ls0 (by simp)
  obtain ⟨qs2, zs2, ls2⟩ := box_set (k := 2) (.int .i64 0) qs1 zs1 ls1 (by simp)
  obtain ⟨qs3, zs3, ls3⟩ := box_set (k := 3) (.int .i64 0) qs2 zs2 ls2 (by simp)
  obtain ⟨qs4, zs4, ls4⟩ := box_set (k := 4) (.int .i64 0) qs3 zs3 ls3 (by simp)
  exact bodyPost_ret (v := .tuple #[qv 17 0 0 0 0, .int .i64 0]) (by simp [results, Try.results15, go_sem, qs0, qs1, qs2, qs3, qs4]) rfl ⟨rfl, (((((hbw.setCell (Nat.le_refl _) _).setCell (Nat.le_refl _) _).setCell (Nat.le_refl _) _).setCell (Nat.le_refl _) _).setCell (Nat.le_refl _) _)⟩

set_option maxRecDepth 100000 in
set_option maxHeartbeats 2000000 in
theorem dec_devY (c o : Int) (b off cap : Nat) (w : World) (hB : b < w.heap.size) (hv : vq 43 0 0 c o = true) (hc : 0 ≤ c ∧ c ≤ 255) (ho : 0 ≤ o ∧ o ≤ 255) (c0 : w.cell? ⟨b, off, none⟩ = some (.int .u8 43)) (c1 : w.cell? ⟨b, off + 1, none⟩ = some (.int .u8 14)) (c2 : w.cell? ⟨b, off + 2, none⟩ = some (.int .u8 c)) (c3 : w.cell? ⟨b, off + 3, none⟩ = some (.int .u8 o)) :
    Calls Try.prog 15 #[.slice (some ⟨b, off, none⟩) 4 cap] w fun e w' => e = .returned (.tuple #[qv 43 0 0 c o, .int .i64 0]) ∧ Below w.heap.size w w' := by
  obtain ⟨c0', c1'⟩ := hc
  obtain ⟨o0', o1'⟩ := ho
  have htab : ∀ w, Calls Try.prog 37 #[.int .i64 43] w fun e w' => e = .returned (.bool false) ∧ w = w' := fun w => istab_any 43 w
  have HT := Lib.hid htab; clear htab
  have hvv : ∀ w, Calls Try.prog 22 #[qv 43 0 0 c o] w fun e w' => e = .returned (.bool true) ∧ Below w.heap.size w w' := fun w => hv ▸ qvalid_any 43 0 0 c o w
  have HV := Lib.hid hvv; clear hvv hv
  go_enter Try.func15, Try.ntmps15
  go_wp2_with fail
  go_in
  go_wp2_with fail
  refine (HT.out _).mono ?_
  rintro e w' ⟨rfl, rfl⟩
  go_wp2_with fail
  refine (HT.out _).mono ?_
  rintro e w' ⟨rfl, rfl⟩
  go_wp2
  go_region
  go_wp2_with fail
  refine (HV.out _).mono ?_
  rintro e w1 ⟨rfl, hb1⟩
  have hb2 := ((Below.refl _ (((w.alloc (.cells #[.int .i64 0, .int .i64 0, .int .i64 0, .int .i64 0, .int .i64 0] 29)).alloc (.cells #[.int .i64 43, .int .i64 0, .int .i64 0, .int .i64 c, .int .i64 o] 29)))).drew).trans hb1
  obtain ⟨q1, q2, z1, l1, l2, hbw⟩ := box2 hb2
  clear hb1 hb2
  go_wp2
  obtain ⟨qs0, zs0, ls0⟩ := box_set (k := 0) (.int .i64 43) q1 z1 l1 (by simp)
  obtain ⟨qs1, zs1, ls1⟩ := box_set (k := 1) (.int .i64 0) qs0 zs0 ls0 (by simp)
  obtain ⟨qs2, zs2, ls2⟩ := box_set (k := 2) (.int .i64 0) qs1 zs1 ls1 (by simp)
  obtain ⟨qs3, zs3, ls3⟩ := box_set (k := 3) (.int .i64 c) qs2 zs2 ls2 (by simp)
  obtain ⟨qs4, zs4, ls4⟩ := box_set (k := 4) (.int .i64 o) qs3 zs3 ls3 (by simp)
  exact bodyPost_ret (v := .tuple #[qv 43 0 0 c o, .int .i64 0]) (by simp [results, Try.results15, go_sem, qs0, qs1, qs2, qs3, qs4]) rfl ⟨rfl, (((((hbw.setCell (Nat.le_refl _) _).setCell (Nat.le_refl _) _).setCell (Nat.le_refl _) _).setCell (Nat.le_refl _) _).setCell (Nat.le_refl _) _)⟩

set_option maxRecDepth 100000 in
set_option maxHeartbeats 2000000 in
theorem dec_tabY (f p q s t a m : Int) (b off cap : Nat) (w : World) (hB : b < w.heap.size) (f1 : 1 ≤ f) (f4 : f ≤ 4) (hp : 0 ≤ p ∧ p ≤ 255) (hq : 0 ≤ q ∧ q ≤ 255) (hs : 0 ≤ s ∧ s ≤ 255) (ht : 0 ≤ t ∧ t ≤ 255) (ha : p * 256 + q = a) (hm : s * 256 + t = m) (hv : vq f a m 0 0 = true) (c0 : w.cell? ⟨b, off, none⟩ = some (.int .u8 f)) (c1 : w.cell? ⟨b, off + 1, none⟩ = some (.int .u8 p)) (c2 : w.cell? ⟨b, off + 2, none⟩ = some (.int .u8 q)) (c3 : w.cell? ⟨b, off + 3, none⟩ = some (.int .u8 s)) (c4 : w.cell? ⟨b, off + 4, none⟩ = some (.int .u8 t)) :
    Calls Try.prog 15 #[.slice (some ⟨b, off, none⟩) 5 cap] w fun e w' => e = .returned (.tuple #[qv f a m 0 0, .int .i64 0]) ∧ Below w.heap.size w w' := by
  obtain ⟨p0, p1⟩ := hp
  obtain ⟨q0, q1⟩ := hq
  obtain ⟨s0, s1⟩ := hs
  obtain ⟨t0, t1⟩ := ht
  have f17 : f ≠ 17 := by omega
  have f43 : f ≠ 43 := by omega
  have e1 := orI p q p0 p1 q0 q1
  have e2 := orI s t s0 s1 t0 t1
  rw [ha] at e1
  rw [hm] at e2
  have HE1 := Lib.hid e1; have HE2 := Lib.hid e2; clear e1 e2 ha hm
  have htab : ∀ w, Calls Try.prog 37 #[.int .i64 f] w fun e w' => e = .returned (.bool true) ∧ w = w' := fun w => by
    have := istab_any f w
    rw [show tabB f = true by simp [tabB]; omega] at this
    exact this
  have HT := Lib.hid htab; clear htab
  have hvv : ∀ w, Calls Try.prog 22 #[qv f a m 0 0] w fun e w' => e = .returned (.bool true) ∧ Below w.heap.size w w' := fun w => hv ▸ qvalid_any f a m 0 0 w
  have HV := Lib.hid hvv; clear hvv hv
  go_enter Try.func15, Try.ntmps15
  go_wp2_with fail
  go_in
  go_wp2_with fail
  refine (HT.out _).mono ?_
  rintro e w' ⟨rfl, rfl⟩
  go_wp2_with fail
  refine (HT.out _).mono ?_
  rintro e w' ⟨rfl, rfl⟩
  go_wp2
  go_region
  go_wp2_with fail
  rw [HE1.out, HE2.out]
  go_wp2_with fail
  refine (HV.out _).mono ?_
  rintro e w1 ⟨rfl, hb1⟩
  have hb2 := ((Below.refl _ (((w.alloc (.cells #[.int .i64 0, .int .i64 0, .int .i64 0, .int .i64 0, .int .i64 0] 29)).alloc (.cells #[.int .i64 f, .int .i64 a, .int .i64 m, .int .i64 0, .int .i64 0] 29)))).drew).trans hb1
  obtain ⟨q1, q2, z1, l1, l2, hbw⟩ := box2 hb2
  clear hb1 hb2
  go_wp2
  obtain ⟨qs0, zs0, ls0⟩ := box_set (k := 0) (.int .i64 f) q1 z1 l1 (by simp)
  obtain ⟨qs1, zs1, ls1⟩ := box_set (k := 1) (.int .i64 a) qs0 zs0 ls0 (by simp)
  obtain ⟨qs2, zs2, ls2⟩ := box_set (k := 2) (.int .i64 m) qs1 zs1 ls1 (by simp)
  obtain ⟨qs3, zs3, ls3⟩ := box_set (k := 3) (.int .i64 0) qs2 zs2 ls2 (by simp)
  obtain ⟨qs4, zs4, ls4⟩ := box_set (k := 4) (.int .i64 0) qs3 zs3 ls3 (by simp)
  exact bodyPost_ret (v := .tuple #[qv f a m 0 0, .int .i64 0]) (by simp [results, Try.results15, go_sem, qs0, qs1, qs2, qs3, qs4]) rfl ⟨rfl, (((((hbw.setCell (Nat.le_refl _) _).setCell (Nat.le_refl _) _).setCell (Nat.le_refl _) _).setCell (Nat.le_refl _) _).setCell (Nat.le_refl _) _)⟩

set_option maxRecDepth 100000 in
set_option maxHeartbeats 2000000 in
theorem dec_devN (c o : Int) (b off cap : Nat) (w : World) (hB : b < w.heap.size) (hv : vq 43 0 0 c o = false) (hc : 0 ≤ c ∧ c ≤ 255) (ho : 0 ≤ o ∧ o ≤ 255) (c0 : w.cell? ⟨b, off, none⟩ = some (.int .u8 43)) (c1 : w.cell? ⟨b, off + 1, none⟩ = some (.int .u8 14)) (c2 : w.cell? ⟨b, off + 2, none⟩ = some (.int .u8 c)) (c3 : w.cell? ⟨b, off + 3, none⟩ = some (.int .u8 o)) :
    Calls Try.prog 15 #[.slice (some ⟨b, off, none⟩) 4 cap] w fun e w' => e = .returned (.tuple #[qv 0 0 0 0 0, .int .i64 3]) ∧ Below w.heap.size w w' := by
  obtain ⟨c0', c1'⟩ := hc
  obtain ⟨o0', o1'⟩ := ho
  have htab : ∀ w, Calls Try.prog 37 #[.int .i64 43] w fun e w' => e = .returned (.bool false) ∧ w = w' := fun w => istab_any 43 w
  have HT := Lib.hid htab; clear htab
  have hvv : ∀ w, Calls Try.prog 22 #[qv 43 0 0 c o] w fun e w' => e = .returned (.bool false) ∧ Below w.heap.size w w' := fun w => hv ▸ qvalid_any 43 0 0 c o w
  have HV := Lib.hid hvv; clear hvv hv
  go_enter Try.func15, Try.ntmps15
  go_wp2_with fail
  go_in
  go_wp2_with fail
  refine (HT.out _).mono ?_
  rintro e w' ⟨rfl, rfl⟩
  go_wp2_with fail
  refine (HT.out _).mono ?_
  rintro e w' ⟨rfl, rfl⟩
  go_wp2
  go_region
  go_wp2_with fail
  refine (HV.out _).mono ?_
  rintro e w1 ⟨rfl, hb1⟩
  have hb2 := ((Below.refl _ (((w.alloc (.cells #[.int .i64 0, .int .i64 0, .int .i64 0, .int .i64 0, .int .i64 0] 29)).alloc (.cells #[.int .i64 43, .int .i64 0, .int .i64 0, .int .i64 c, .int .i64 o] 29)))).drew).trans hb1
  obtain ⟨q1, q2, z1, l1, l2, hbw⟩ := box2 hb2
  clear hb1 hb2
  go_wp2
  obtain ⟨qs0, zs0, ls0⟩ := box_set (k := 0) (.int .i64 0) q1 z1 l1 (by simp)
  obtain ⟨qs1, zs1, ls1⟩ := box_set (k := 1) (.int .i64 0) qs0 zs0 ls0 (by simp)
  obtain ⟨qs2, zs2, ls2⟩ := box_set (k := 2) (.int .i64 0) qs1 zs1 ls1 (by simp)
  obtain ⟨qs3, zs3, ls3⟩ := box_set (k := 3) (.int .i64 0) qs2 zs2 ls2 (by simp)
  obtain ⟨qs4, zs4, ls4⟩ := box_set (k := 4) (.int .i64 0) qs3 zs3 ls3 (by simp)
  exact bodyPost_ret (v := .tuple #[qv 0 0 0 0 0, .int .i64 3]) (by simp [results, Try.results15, go_sem, qs0, qs1, qs2, qs3, qs4]) rfl ⟨rfl, (((((hbw.setCell (Nat.le_refl _) _).setCell (Nat.le_refl _) _).setCell (Nat.le_refl _) _).setCell (Nat.le_refl _) _).setCell (Nat.le_refl _) _)⟩

set_option maxRecDepth 100000 in
set_option maxHeartbeats 2000000 in
theorem dec_tabN (f p q s t a m : Int) (b off cap : Nat) (w : World) (hB : b < w.heap.size) (f1 : 1 ≤ f) (f4 : f ≤ 4) (hp : 0 ≤ p ∧ p ≤ 255) (hq : 0 ≤ q ∧ q ≤ 255) (hs : 0 ≤ s ∧ s ≤ 255) (ht : 0 ≤ t ∧ t ≤ 255) (ha : p * 256 + q = a) (hm : s * 256 + t = m) (hv : vq f a m 0 0 = false) (c0 : w.cell? ⟨b, off, none⟩ = some (.int .u8 f)) (c1 : w.cell? ⟨b, off + 1, none⟩ = some (.int .u8 p)) (c2 : w.cell? ⟨b, off + 2, none⟩ = some (.int .u8 q)) (c3 : w.cell? ⟨b, off + 3, none⟩ = some (.int .u8 s)) (c4 : w.cell? ⟨b, off + 4, none⟩ = some (.int .u8 t)) :
    Calls Try.prog 15 #[.slice (some ⟨b, off, none⟩) 5 cap] w fun e w' => e = .returned (.tuple #[qv 0 0 0 0 0, .int .i64 3]) ∧ Below w.heap.size w w' := by
  obtain ⟨p0, p1⟩ := hp
  obtain ⟨q0, q1⟩ := hq
  obtain ⟨s0, s1⟩ := hs
  obtain ⟨t0, t1⟩ := ht
  have f17 : f ≠ 17 := by omega
  have f43 : f ≠ 43 := by omega
  have e1 := orI p q p0 p1 q0 q1
  have e2 := orI s t s0 s1 t0 t1
  rw [ha] at e1
  rw [hm] at e2
  have HE1 := Lib.hid e1; have HE2 := Lib.hid e2; clear e1 e2 ha hm
  have htab : ∀ w, Calls Try.prog 37 #[.int .i64 f] w fun e w' => e = .returned (.bool true) ∧ w = w' := fun w => by
    have := istab_any f w
    rw [show tabB f = true by simp [tabB]; omega] at this
    exact this
  have HT := Lib.hid htab; clear htab
  have hvv : ∀ w, Calls Try.prog 22 #[qv f a m 0 0] w fun e w' => e = .returned (.bool false) ∧ Below w.heap.size w w' := fun w => hv ▸ qvalid_any f a m 0 0 w
  have HV := Lib.hid hvv; clear hvv hv
  go_enter Try.func15, Try.ntmps15
  go_wp2_with fail
  go_in
  go_wp2_with fail
  refine (HT.out _).mono ?_
  rintro e w' ⟨rfl, rfl⟩
  go_wp2_with fail
  refine (HT.out _).mono ?_
  rintro e w' ⟨rfl, rfl⟩
  go_wp2
  go_region
  go_wp2_with fail
  rw [HE1.out, HE2.out]
  go_wp2_with fail
  refine (HV.out _).mono ?_
  rintro e w1 ⟨rfl, hb1⟩
  have hb2 := ((Below.refl _ (((w.alloc (.cells #[.int .i64 0, .int .i64 0, .int .i64 0, .int .i64 0, .int .i64 0] 29)).alloc (.cells #[.int .i64 f, .int .i64 a, .int .i64 m, .int .i64 0, .int .i64 0] 29)))).drew).trans hb1
  obtain ⟨q1, q2, z1, l1, l2, hbw⟩ := box2 hb2
  clear hb1 hb2
  go_wp2
  obtain ⟨qs0, zs0, ls0⟩ := box_set (k := 0) (.int .i64 0) q1 z1 l1 (by simp)
  obtain ⟨qs1, zs1, ls1⟩ := box_set (k := 1) (.int .i64 0) qs0 zs0 ls0 (by simp)
  obtain ⟨qs2, zs2, ls2⟩ := box_set (k := 2) (.int .i64 0) qs1 zs1 ls1 (by simp)
  obtain ⟨qs3, zs3, ls3⟩ := box_set (k := 3) (.int .i64 0) qs2 zs2 ls2 (by simp)
  obtain ⟨qs4, zs4, ls4⟩ := box_set (k := 4) (.int .i64 0) qs3 zs3 ls3 (by simp)
  exact bodyPost_ret (v := .tuple #[qv 0 0 0 0 0, .int .i64 3]) (by simp [results, Try.results15, go_sem, qs0, qs1, qs2, qs3, qs4]) rfl ⟨rfl, (((((hbw.setCell (Nat.le_refl _) _).setCell (Nat.le_refl _) _).setCell (Nat.le_refl _) _).setCell (Nat.le_refl _) _).setCell (Nat.le_refl _) _)⟩

end Go.Proofs.Ytoliplochipoeaa

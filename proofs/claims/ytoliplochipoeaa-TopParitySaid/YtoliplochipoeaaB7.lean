import Derived.Lib.EndianBits
import Derived.Test.YtoliplochipoeaaB6
/- Layer 10: contracts of Encode, the program's and the reference's. -/
set_option linter.unusedVariables false
set_option linter.unusedSimpArgs false
namespace Go.Proofs.Ytoliplochipoeaa
open Go.RowKit

def encL (f a n c o : Int) : List Int := if f = 17 then [17] else if f = 43 then [43, 14, c, o] else [f, a / 256, a % 256, n / 256, n % 256]

theorem vq_cases {f a n c o : Int} (h : vq f a n c o = true) : (f = 17 ∧ a = 0 ∧ n = 0 ∧ c = 0 ∧ o = 0) ∨ (f = 43 ∧ 1 ≤ c ∧ c ≤ 3 ∧ 0 ≤ o ∧ o ≤ 255 ∧ a = 0 ∧ n = 0) ∨ (1 ≤ f ∧ f ≤ 4 ∧ 0 ≤ a ∧ a ≤ 65535 ∧ 1 ≤ n ∧ n ≤ 2000 ∧ a ≤ 65536 - n ∧ c = 0 ∧ o = 0) := by
  have h := of_decide_eq_true h
  rcases h with ⟨h1, h2, h3, h4, h5, h6, h7, h8⟩ | h | h
  · have : limZ f ≤ 2000 := by unfold limZ; split
                               · decide
                               · split <;> decide
    exact .inr (.inr ⟨h1, h2, h3, by omega, h4, by omega, h6, h7, h8⟩)
  · exact .inl h
  · exact .inr (.inl h)

set_option maxRecDepth 100000 in
set_option maxHeartbeats 2000000 in
theorem enc_no (f a n c o : Int) (hv : vq f a n c o = false) (w : World) : Calls Try.prog 8 #[qv f a n c o] w fun e w' => e = .returned (.tuple #[.slice none 0 0, .int .i64 5]) ∧ Below w.heap.size w w' := by
  have hc : ∀ w, Calls Try.prog 22 #[qv f a n c o] w fun e w' => e = .returned (.bool false) ∧ Below w.heap.size w w' := fun w => hv ▸ qvalid_any f a n c o w
  have HC := Lib.hid hc; clear hc hv
  go_enter Try.func8, Try.ntmps8
  go_wp2_with fail
  refine (HC.out _).mono ?_
  rintro e w1 ⟨rfl, hb1⟩
  have hb := ext_alloc' (Below.refl _ w) (by simpa using hb1)
  clear hb1
  go_wp2
  go_ret2
  exact ⟨rfl, hb⟩

set_option maxRecDepth 100000 in
set_option maxHeartbeats 2000000 in
theorem enc_yes (f a n c o : Int) (hv : vq f a n c o = true) (w : World) : Calls Try.prog 8 #[qv f a n c o] w fun e w' => ∃ A m, e = .returned (.tuple #[.slice A m m, .int .i64 0]) ∧ m = (encL f a n c o).length ∧ Rd w' w'.heap.size 1 A m (by8 (encL f a n c o)) ∧ Below w.heap.size w w' := by
  have hc : ∀ w, Calls Try.prog 22 #[qv f a n c o] w fun e w' => e = .returned (.bool true) ∧ Below w.heap.size w w' := fun w => hv ▸ qvalid_any f a n c o w
  have HC := Lib.hid hc; clear hc
  rcases vq_cases hv with ⟨rfl, rfl, rfl, rfl, rfl⟩ | ⟨rfl, h1, h2, h3, h4, rfl, rfl⟩ | ⟨h1, h2, h3, h4, h5, h6, h7, rfl, rfl⟩
  · clear hv
    go_enter Try.func8, Try.ntmps8
    go_wp2_with fail
    refine (HC.out _).mono ?_
    rintro e w1 ⟨rfl, hb1⟩
    have hb := ext_alloc' (Below.refl _ w) (by simpa using hb1)
    obtain ⟨q1, _, l1⟩ := box_new hb1
    clear hb1
    go_wp2
    go_ret2
    exact ⟨_, _, rfl, rfl, Rd.lit rfl (by simp), ext_alloc' hb (Below.refl _ _)⟩
  · clear hv
    go_enter Try.func8, Try.ntmps8
    go_wp2_with fail
    refine (HC.out _).mono ?_
    rintro e w1 ⟨rfl, hb1⟩
    have hb := ext_alloc' (Below.refl _ w) (by simpa using hb1)
    obtain ⟨q1, _, l1⟩ := box_new hb1
    clear hb1
    go_wp2
    go_ret2
    exact ⟨_, _, rfl, rfl, Rd.lit rfl (by simp), ext_alloc' hb (Below.refl _ _)⟩
  · have hz : encL f a n 0 0 = [f, a / 256, a % 256, n / 256, n % 256] := by rw [encL, if_neg (by omega), if_neg (by omega)]
    rw [hz]
    have f17 : f ≠ 17 := by omega
    have f43 : f ≠ 43 := by omega
    clear hv hz
    go_enter Try.func8, Try.ntmps8
    go_wp2_with fail
    refine (HC.out _).mono ?_
    rintro e w1 ⟨rfl, hb1⟩
    have hb := ext_alloc' (Below.refl _ w) (by simpa using hb1)
    obtain ⟨q1, _, l1⟩ := box_new hb1
    clear hb1
    go_wp2
    go_ret2
    exact ⟨_, _, rfl, rfl, Rd.lit rfl (by simp), ext_alloc' hb (Below.refl _ _)⟩

end Go.Proofs.Ytoliplochipoeaa

/- Layer 10: contract of Decode, the program's and the reference's, shape by shape. -/
set_option linter.unusedVariables false
set_option linter.unusedSimpArgs false
namespace Go.Proofs.Ytoliplochipoeaa
open Go.RowKit

theorem Rd.get8 {w : World} {B n : Nat} {A : Option Addr} {xs : List Int} (h : Rd w B 1 A n (by8 xs)) (hn : 0 < n) : ∃ b off, A = some ⟨b, off, none⟩ ∧ b < B ∧ ∀ k x, xs[k]? = some x → w.cell? ⟨b, off + k, none⟩ = some (.int .u8 x) := by
  obtain ⟨b, off, e, hb, hc⟩ := h.2 hn
  exact ⟨b, off, e, hb, fun k x hk => hc k _ (by simp [hk])⟩
theorem Rd.len8 {w : World} {B n : Nat} {A : Option Addr} {xs : List Int} (h : Rd w B 1 A n (by8 xs)) : xs.length = n := by have := h.1; simpa using this
theorem orI (p q : Int) (hp : 0 ≤ p) (hp' : p ≤ 255) (hq : 0 ≤ q) (hq' : q ≤ 255) : bits BinOp.or IntKind.i64 (p * 256) q = p * 256 + q :=
  bits_join .i64 16 (by decide) (fun n h1 h2 => by simp [IntKind.wrap, IntKind.bits, IntKind.signed]; omega) 8 (p * 256) q (by omega) (by omega) (by omega) hq (by omega) (by omega)
theorem box2 {w w1 : World} {xs ys : Array Value} {e f : TypeId} (hb : Below ((w.alloc (.cells xs e)).alloc (.cells ys f)).heap.size ((w.alloc (.cells xs e)).alloc (.cells ys f)) w1) :
    (∀ i, w1.cell? ⟨w.heap.size, i, none⟩ = xs[i]?) ∧ (∀ i, w1.cell? ⟨w.heap.size + 1, i, none⟩ = ys[i]?) ∧ (∀ i, w1.frozen? ⟨w.heap.size, i, none⟩ = false) ∧ w.heap.size < w1.heap.size ∧ w.heap.size + 1 < w1.heap.size ∧ Below w.heap.size w w1 := by
  obtain ⟨q1, z1, l1⟩ := box_new (Below.refl _ (w.alloc (.cells xs e)))
  obtain ⟨q2, z2, l2⟩ := box_keep q1 z1 l1 ((Below.refl _ (w.alloc (.cells xs e))).alloc (Nat.le_refl _) (.cells ys f))
  obtain ⟨q3, z3, l3⟩ := box_keep q2 z2 l2 hb
  obtain ⟨q4, z4, l4⟩ := box_new hb
  exact ⟨q3, by simpa using q4, z3, l3, by simpa using l4, ext_alloc' ((Below.refl _ w).alloc (Nat.le_refl _) (.cells xs e)) (by simpa using hb)⟩

set_option maxRecDepth 100000 in
set_option maxHeartbeats 2000000 in
theorem dec_nil (A : Option Addr) (cap : Nat) (w : World) :
    Calls Try.prog 15 #[.slice A 0 cap] w fun e w' => e = .returned (.tuple #[qv 0 0 0 0 0, .int .i64 4]) ∧ Below w.heap.size w w' := by
  go_enter Try.func15, Try.ntmps15
  go_wp2
  exact bodyPost_ret (v := .tuple #[qv 0 0 0 0 0, .int .i64 4]) (by simp [results, Try.results15, go_sem]) rfl ⟨rfl, (Below.refl _ w).alloc (Nat.le_refl _) _⟩

set_option maxRecDepth 100000 in
set_option maxHeartbeats 2000000 in
theorem dec_other (f : Int) (b off cap n : Nat) (w : World) (hB : b < w.heap.size) (h0 : 0 ≤ f) (h255 : f ≤ 255) (hf : ¬ (1 ≤ f ∧ f ≤ 4)) (h17 : f ≠ 17) (h43 : f ≠ 43) (hn : 0 < n) (c0 : w.cell? ⟨b, off, none⟩ = some (.int .u8 f)) :
    Calls Try.prog 15 #[.slice (some ⟨b, off, none⟩) n cap] w fun e w' => e = .returned (.tuple #[qv 0 0 0 0 0, .int .i64 16]) ∧ Below w.heap.size w w' := by
  have htab : ∀ w, Calls Try.prog 37 #[.int .i64 f] w fun e w' => e = .returned (.bool false) ∧ w = w' := fun w => by
    have := istab_any f w
    rw [show tabB f = false by simp [tabB]; omega] at this
    exact this
  have HT := Lib.hid htab; clear htab
  have hbw : Below w.heap.size w ((w.alloc (.cells #[.int .i64 0, .int .i64 0, .int .i64 0, .int .i64 0, .int .i64 0] 29)).alloc (.cells #[.int .i64 f, .int .i64 0, .int .i64 0, .int .i64 0, .int .i64 0] 29)) := ((Below.refl _ w).alloc (Nat.le_refl _) _).alloc (by simp) _
  have hn0 : n ≠ 0 := by omega
  clear hf
  go_enter Try.func15, Try.ntmps15
  go_wp2_with fail
  go_in
  go_wp2_with fail
  refine (HT.out _).mono ?_
  rintro e w' ⟨rfl, rfl⟩
  go_wp2
  exact bodyPost_ret (v := .tuple #[qv 0 0 0 0 0, .int .i64 16]) (by simp [results, Try.results15, go_sem]) rfl ⟨rfl, by assumption⟩

set_option maxRecDepth 100000 in
set_option maxHeartbeats 2000000 in
theorem dec_tabL (f : Int) (b off cap n : Nat) (w : World) (hB : b < w.heap.size) (f1 : 1 ≤ f) (f4 : f ≤ 4) (hn : 0 < n) (hn5 : n ≠ 5) (c0 : w.cell? ⟨b, off, none⟩ = some (.int .u8 f)) :
    Calls Try.prog 15 #[.slice (some ⟨b, off, none⟩) n cap] w fun e w' => e = .returned (.tuple #[qv 0 0 0 0 0, .int .i64 4]) ∧ Below w.heap.size w w' := by
  have htab : ∀ w, Calls Try.prog 37 #[.int .i64 f] w fun e w' => e = .returned (.bool true) ∧ w = w' := fun w => by
    have := istab_any f w
    rw [show tabB f = true by simp [tabB]; omega] at this
    exact this
  have HT := Lib.hid htab; clear htab
  have hbw : Below w.heap.size w ((w.alloc (.cells #[.int .i64 0, .int .i64 0, .int .i64 0, .int .i64 0, .int .i64 0] 29)).alloc (.cells #[.int .i64 f, .int .i64 0, .int .i64 0, .int .i64 0, .int .i64 0] 29)) := ((Below.refl _ w).alloc (Nat.le_refl _) _).alloc (by simp) _
  have hn0 : n ≠ 0 := by omega
  have hn5' : ((n : Int) == 5) = false := by simp; omega
  go_enter Try.func15, Try.ntmps15
  go_wp2_with fail
  go_in
  go_wp2_with fail
  refine (HT.out _).mono ?_
  rintro e w' ⟨rfl, rfl⟩
  go_wp2
  exact bodyPost_ret (v := .tuple #[qv 0 0 0 0 0, .int .i64 4]) (by simp [results, Try.results15, go_sem]) rfl ⟨rfl, by assumption⟩

set_option maxRecDepth 100000 in
set_option maxHeartbeats 2000000 in
theorem dec_srvL (z : Int) (b off cap n : Nat) (w : World) (hB : b < w.heap.size) (hz : z = 0) (hn : 0 < n) (hn1 : n ≠ 1) (c0 : w.cell? ⟨b, off, none⟩ = some (.int .u8 17)) :
    Calls Try.prog 15 #[.slice (some ⟨b, off, none⟩) n cap] w fun e w' => e = .returned (.tuple #[qv 0 0 0 0 0, .int .i64 4]) ∧ Below w.heap.size w w' := by
  have htab : ∀ w, Calls Try.prog 37 #[.int .i64 17] w fun e w' => e = .returned (.bool false) ∧ w = w' := fun w => istab_any 17 w
  have HT := Lib.hid htab; clear htab
  have hbw : Below w.heap.size w ((w.alloc (.cells #[.int .i64 0, .int .i64 0, .int .i64 0, .int .i64 0, .int .i64 0] 29)).alloc (.cells #[.int .i64 17, .int .i64 0, .int .i64 0, .int .i64 0, .int .i64 0] 29)) := ((Below.refl _ w).alloc (Nat.le_refl _) _).alloc (by simp) _
  have hn0 : n ≠ 0 := by omega
  have hn1' : ((n : Int) == 1) = false := by simp; omega
  go_enter Try.func15, Try.ntmps15
  go_wp2_with fail
  go_in
  go_wp2_with fail
  refine (HT.out _).mono ?_
  rintro e w' ⟨rfl, rfl⟩
  go_wp2
  exact bodyPost_ret (v := .tuple #[qv 0 0 0 0 0, .int .i64 4]) (by simp [results, Try.results15, go_sem]) rfl ⟨rfl, by assumption⟩

set_option maxRecDepth 100000 in
set_option maxHeartbeats 2000000 in
theorem dec_devL (z : Int) (b off cap n : Nat) (w : World) (hB : b < w.heap.size) (hz : z = 0) (hn : 0 < n) (hn4 : n ≠ 4) (c0 : w.cell? ⟨b, off, none⟩ = some (.int .u8 43)) :
    Calls Try.prog 15 #[.slice (some ⟨b, off, none⟩) n cap] w fun e w' => e = .returned (.tuple #[qv 0 0 0 0 0, .int .i64 4]) ∧ Below w.heap.size w w' := by
  have htab : ∀ w, Calls Try.prog 37 #[.int .i64 43] w fun e w' => e = .returned (.bool false) ∧ w = w' := fun w => istab_any 43 w
  have HT := Lib.hid htab; clear htab
  have hbw : Below w.heap.size w ((w.alloc (.cells #[.int .i64 0, .int .i64 0, .int .i64 0, .int .i64 0, .int .i64 0] 29)).alloc (.cells #[.int .i64 43, .int .i64 0, .int .i64 0, .int .i64 0, .int .i64 0] 29)) := ((Below.refl _ w).alloc (Nat.le_refl _) _).alloc (by simp) _
  have hn0 : n ≠ 0 := by omega
  have hn4' : ((n : Int) == 4) = false := by simp; omega
  go_enter Try.func15, Try.ntmps15
  go_wp2_with fail
  go_in
  go_wp2_with fail
  refine (HT.out _).mono ?_
  rintro e w' ⟨rfl, rfl⟩
  go_wp2
  exact bodyPost_ret (v := .tuple #[qv 0 0 0 0 0, .int .i64 4]) (by simp [results, Try.results15, go_sem]) rfl ⟨rfl, by assumption⟩

set_option maxRecDepth 100000 in
set_option maxHeartbeats 2000000 in
theorem dec_devK (k : Int) (b off cap : Nat) (w : World) (hB : b < w.heap.size) (hk : k ≠ 14) (c0 : w.cell? ⟨b, off, none⟩ = some (.int .u8 43)) (c1 : w.cell? ⟨b, off + 1, none⟩ = some (.int .u8 k)) :
    Calls Try.prog 15 #[.slice (some ⟨b, off, none⟩) 4 cap] w fun e w' => e = .returned (.tuple #[qv 0 0 0 0 0, .int .i64 6]) ∧ Below w.heap.size w w' := by
  have htab : ∀ w, Calls Try.prog 37 #[.int .i64 43] w fun e w' => e = .returned (.bool false) ∧ w = w' := fun w => istab_any 43 w
  have HT := Lib.hid htab; clear htab
  have hbw : Below w.heap.size w ((w.alloc (.cells #[.int .i64 0, .int .i64 0, .int .i64 0, .int .i64 0, .int .i64 0] 29)).alloc (.cells #[.int .i64 43, .int .i64 0, .int .i64 0, .int .i64 0, .int .i64 0] 29)) := ((Below.refl _ w).alloc (Nat.le_refl _) _).alloc (by simp) _
  have hk' : (k == 14) = false := by simpa using hk
  go_enter Try.func15, Try.ntmps15
  go_wp2_with fail
  go_in
  go_wp2_with fail
  refine (HT.out _).mono ?_
  rintro e w' ⟨rfl, rfl⟩
  go_wp2
  exact bodyPost_ret (v := .tuple #[qv 0 0 0 0 0, .int .i64 6]) (by simp [results, Try.results15, go_sem]) rfl ⟨rfl, by assumption⟩

set_option maxRecDepth 100000 in
set_option maxHeartbeats 2000000 in
theorem dec_srvY (z : Int) (b off cap : Nat) (w : World) (hB : b < w.heap.size) (hz : z = 0) (c0 : w.cell? ⟨b, off, none⟩ = some (.int .u8 17)) :
    Calls Try.prog 15 #[.slice (some ⟨b, off, none⟩) 1 cap] w fun e w' => e = .returned (.tuple #[qv 17 0 0 0 0, .int .i64 0]) ∧ Below w.heap.size w w' := by
  have hv : vq 17 0 0 0 0 = true := by decide
  have htab : ∀ w, Calls Try.prog 37 #[.int .i64 17] w fun e w' => e = .returned (.bool false) ∧ w = w' := fun w => istab_any 17 w
  have HT := Lib.hid htab; clear htab
  have hvv : ∀ w, Calls Try.prog 22 #[qv 17 0 0 0 0] w fun e w' => e = .returned (.bool true) ∧ Below w.heap.size w w' := fun w => hv ▸ qvalid_any 17 0 0 0 0 w
  have HV := Lib.hid hvv; clear hvv hv
  go_enter Try.func15, Try.ntmps15
  go_wp2_with fail
  go_in
  go_wp2_with fail
  refine (HT.out _).mono ?_
  rintro e w' ⟨rfl, rfl⟩
  go_wp2_with fail
  refine (HT.out _).mono ?_
  rintro e w' ⟨rfl, rfl⟩
  go_wp2_with fail
  refine (HV.out _).mono ?_
  rintro e w1 ⟨rfl, hb1⟩
  obtain ⟨q1, q2, z1, l1, l2, hbw⟩ := box2 hb1
  clear hb1
  go_wp2
  obtain ⟨qs0, zs0, ls0⟩ := box_set (k := 0) (.int .i64 17) q1 z1 l1 (by simp)
  obtain ⟨qs1, zs1, ls1⟩ := box_set (k := 1) (.int .i64 0) qs0 zs0 ls0 (by simp)
  obtain ⟨qs2, zs2, ls2⟩ := box_set (k := 2) (.int .i64 0) qs1 zs1 ls1 (by simp)
  obtain ⟨qs3, zs3, ls3⟩ := box_set (k := 3) (.int .i64 0) qs2 zs2 ls2 (by simp)
  obtain ⟨qs4, zs4, ls4⟩ := box_set (k := 4) (.int .i64 0) qs3 zs3 ls3 (by simp)
  exact bodyPost_ret (v := .tuple #[qv 17 0 0 0 0, .int .i64 0]) (by simp [results, Try.results15, go_sem, qs0, qs1, qs2, qs3, qs4]) rfl ⟨rfl, (((((hbw.setCell (Nat.le_refl _) _).setCell (Nat.le_refl _) _).setCell (Nat.le_refl _) _).setCell (Nat.le_refl _) _).setCell (Nat.le_refl _) _)⟩

set_option maxRecDepth 100000 in
set_option maxHeartbeats 2000000 in
theorem dec_devY (c o : Int) (b off cap : Nat) (w : World) (hB : b < w.heap.size) (hv : vq 43 0 0 c o = true) (hc : 0 ≤ c ∧ c ≤ 255) (ho : 0 ≤ o ∧ o ≤ 255) (c0 : w.cell? ⟨b, off, none⟩ = some (.int .u8 43)) (c1 : w.cell? ⟨b, off + 1, none⟩ = some (.int .u8 14)) (c2 : w.cell? ⟨b, off + 2, none⟩ = some (.int .u8 c)) (c3 : w.cell? ⟨b, off + 3, none⟩ = some (.int .u8 o)) :
    Calls Try.prog 15 #[.slice (some ⟨b, off, none⟩) 4 cap] w fun e w' => e = .returned (.tuple #[qv 43 0 0 c o, .int .i64 0]) ∧ Below w.heap.size w w' := by
  obtain ⟨c0', c1'⟩ := hc
  obtain ⟨o0', o1'⟩ := ho
  have htab : ∀ w, Calls Try.prog 37 #[.int .i64 43] w fun e w' => e = .returned (.bool false) ∧ w = w' := fun w => istab_any 43 w
  have HT := Lib.hid htab; clear htab
  have hvv : ∀ w, Calls Try.prog 22 #[qv 43 0 0 c o] w fun e w' => e = .returned (.bool true) ∧ Below w.heap.size w w' := fun w => hv ▸ qvalid_any 43 0 0 c o w
  have HV := Lib.hid hvv; clear hvv hv
  go_enter Try.func15, Try.ntmps15
  go_wp2_with fail
  go_in
  go_wp2_with fail
  refine (HT.out _).mono ?_
  rintro e w' ⟨rfl, rfl⟩
  go_wp2_with fail
  refine (HT.out _).mono ?_
  rintro e w' ⟨rfl, rfl⟩
  go_wp2
  go_region
  go_wp2_with fail
  refine (HV.out _).mono ?_
  rintro e w1 ⟨rfl, hb1⟩
  have hb2 := ((Below.refl _ (((w.alloc (.cells #[.int .i64 0, .int .i64 0, .int .i64 0, .int .i64 0, .int .i64 0] 29)).alloc (.cells #[.int .i64 43, .int .i64 0, .int .i64 0, .int .i64 c, .int .i64 o] 29)))).drew).trans hb1
  obtain ⟨q1, q2, z1, l1, l2, hbw⟩ := box2 hb2
  clear hb1 hb2
  go_wp2
  obtain ⟨qs0, zs0, ls0⟩ := box_set (k := 0) (.int .i64 43) q1 z1 l1 (by simp)
  obtain ⟨qs1, zs1, ls1⟩ := box_set (k := 1) (.int .i64 0) qs0 zs0 ls0 (by simp)
  obtain ⟨qs2, zs2, ls2⟩ := box_set (k := 2) (.int .i64 0) qs1 zs1 ls1 (by simp)
  obtain ⟨qs3, zs3, ls3⟩ := box_set (k := 3) (.int .i64 c) qs2 zs2 ls2 (by simp)
  obtain ⟨qs4, zs4, ls4⟩ := box_set (k := 4) (.int .i64 o) qs3 zs3 ls3 (by simp)
  exact bodyPost_ret (v := .tuple #[qv 43 0 0 c o, .int .i64 0]) (by simp [results, Try.results15, go_sem, qs0, qs1, qs2, qs3, qs4]) rfl ⟨rfl, (((((hbw.setCell (Nat.le_refl _) _).setCell (Nat.le_refl _) _).setCell (Nat.le_refl _) _).setCell (Nat.le_refl _) _).setCell (Nat.le_refl _) _)⟩

set_option maxRecDepth 100000 in
set_option maxHeartbeats 2000000 in
theorem dec_tabY (f p q s t a m : Int) (b off cap : Nat) (w : World) (hB : b < w.heap.size) (f1 : 1 ≤ f) (f4 : f ≤ 4) (hp : 0 ≤ p ∧ p ≤ 255) (hq : 0 ≤ q ∧ q ≤ 255) (hs : 0 ≤ s ∧ s ≤ 255) (ht : 0 ≤ t ∧ t ≤ 255) (ha : p * 256 + q = a) (hm : s * 256 + t = m) (hv : vq f a m 0 0 = true) (c0 : w.cell? ⟨b, off, none⟩ = some (.int .u8 f)) (c1 : w.cell? ⟨b, off + 1, none⟩ = some (.int .u8 p)) (c2 : w.cell? ⟨b, off + 2, none⟩ = some (.int .u8 q)) (c3 : w.cell? ⟨b, off + 3, none⟩ = some (.int .u8 s)) (c4 : w.cell? ⟨b, off + 4, none⟩ = some (.int .u8 t)) :
    Calls Try.prog 15 #[.slice (some ⟨b, off, none⟩) 5 cap] w fun e w' => e = .returned (.tuple #[qv f a m 0 0, .int .i64 0]) ∧ Below w.heap.size w w' := by
  obtain ⟨p0, p1⟩ := hp
  obtain ⟨q0, q1⟩ := hq
  obtain ⟨s0, s1⟩ := hs
  obtain ⟨t0, t1⟩ := ht
  have f17 : f ≠ 17 := by omega
  have f43 : f ≠ 43 := by omega
  have e1 := orI p q p0 p1 q0 q1
  have e2 := orI s t s0 s1 t0 t1
  rw [ha] at e1
  rw [hm] at e2
  have HE1 := Lib.hid e1; have HE2 := Lib.hid e2; clear e1 e2 ha hm
  have htab : ∀ w, Calls Try.prog 37 #[.int .i64 f] w fun e w' => e = .returned (.bool true) ∧ w = w' := fun w => by
    have := istab_any f w
    rw [show tabB f = true by simp [tabB]; omega] at this
    exact this
  have HT := Lib.hid htab; clear htab
  have hvv : ∀ w, Calls Try.prog 22 #[qv f a m 0 0] w fun e w' => e = .returned (.bool true) ∧ Below w.heap.size w w' := fun w => hv ▸ qvalid_any f a m 0 0 w
  have HV := Lib.hid hvv; clear hvv hv
  go_enter Try.func15, Try.ntmps15
  go_wp2_with fail
  go_in
  go_wp2_with fail
  refine (HT.out _).mono ?_
  rintro e w' ⟨rfl, rfl⟩
  go_wp2_with fail
  refine (HT.out _).mono ?_
  rintro e w' ⟨rfl, rfl⟩
  go_wp2
  go_region
  go_wp2_with fail
  rw [HE1.out, HE2.out]
  go_wp2_with fail
  refine (HV.out _).mono ?_
  rintro e w1 ⟨rfl, hb1⟩
  have hb2 := ((Below.refl _ (((w.alloc (.cells #[.int .i64 0, .int .i64 0, .int .i64 0, .int .i64 0, .int .i64 0] 29)).alloc (.cells #[.int .i64 f, .int .i64 a, .int .i64 m, .int .i64 0, .int .i64 0] 29)))).drew).trans hb1
  obtain ⟨q1, q2, z1, l1, l2, hbw⟩ := box2 hb2
  clear hb1 hb2
  go_wp2
  obtain ⟨qs0, zs0, ls0⟩ := box_set (k := 0) (.int .i64 f) q1 z1 l1 (by simp)
  obtain ⟨qs1, zs1, ls1⟩ := box_set (k := 1) (.int .i64 a) qs0 zs0 ls0 (by simp)
  obtain ⟨qs2, zs2, ls2⟩ := box_set (k := 2) (.int .i64 m) qs1 zs1 ls1 (by simp)
  obtain ⟨qs3, zs3, ls3⟩ := box_set (k := 3) (.int .i64 0) qs2 zs2 ls2 (by simp)
  obtain ⟨qs4, zs4, ls4⟩ := box_set (k := 4) (.int .i64 0) qs3 zs3 ls3 (by simp)
  exact bodyPost_ret (v := .tuple #[qv f a m 0 0, .int .i64 0]) (by simp [results, Try.results15, go_sem, qs0, qs1, qs2, qs3, qs4]) rfl ⟨rfl, (((((hbw.setCell (Nat.le_refl _) _).setCell (Nat.le_refl _) _).setCell (Nat.le_refl _) _).setCell (Nat.le_refl _) _).setCell (Nat.le_refl _) _)⟩

set_option maxRecDepth 100000 in
set_option maxHeartbeats 2000000 in
theorem dec_devN (c o : Int) (b off cap : Nat) (w : World) (hB : b < w.heap.size) (hv : vq 43 0 0 c o = false) (hc : 0 ≤ c ∧ c ≤ 255) (ho : 0 ≤ o ∧ o ≤ 255) (c0 : w.cell? ⟨b, off, none⟩ = some (.int .u8 43)) (c1 : w.cell? ⟨b, off + 1, none⟩ = some (.int .u8 14)) (c2 : w.cell? ⟨b, off + 2, none⟩ = some (.int .u8 c)) (c3 : w.cell? ⟨b, off + 3, none⟩ = some (.int .u8 o)) :
    Calls Try.prog 15 #[.slice (some ⟨b, off, none⟩) 4 cap] w fun e w' => e = .returned (.tuple #[qv 0 0 0 0 0, .int .i64 3]) ∧ Below w.heap.size w w' := by
  obtain ⟨c0', c1'⟩ := hc
  obtain ⟨o0', o1'⟩ := ho
  have htab : ∀ w, Calls Try.prog 37 #[.int .i64 43] w fun e w' => e = .returned (.bool false) ∧ w = w' := fun w => istab_any 43 w
  have HT := Lib.hid htab; clear htab
  have hvv : ∀ w, Calls Try.prog 22 #[qv 43 0 0 c o] w fun e w' => e = .returned (.bool false) ∧ Below w.heap.size w w' := fun w => hv ▸ qvalid_any 43 0 0 c o w
  have HV := Lib.hid hvv; clear hvv hv
  go_enter Try.func15, Try.ntmps15
  go_wp2_with fail
  go_in
  go_wp2_with fail
  refine (HT.out _).mono ?_
  rintro e w' ⟨rfl, rfl⟩
  go_wp2_with fail
  refine (HT.out _).mono ?_
  rintro e w' ⟨rfl, rfl⟩
  go_wp2
  go_region
  go_wp2_with fail
  refine (HV.out _).mono ?_
  rintro e w1 ⟨rfl, hb1⟩
  have hb2 := ((Below.refl _ (((w.alloc (.cells #[.int .i64 0, .int .i64 0, .int .i64 0, .int .i64 0, .int .i64 0] 29)).alloc (.cells #[.int .i64 43, .int .i64 0, .int .i64 0, .int .i64 c, .int .i64 o] 29)))).drew).trans hb1
  obtain ⟨q1, q2, z1, l1, l2, hbw⟩ := box2 hb2
  clear hb1 hb2
  go_wp2
  obtain ⟨qs0, zs0, ls0⟩ := box_set (k := 0) (.int .i64 0) q1 z1 l1 (by simp)
  obtain ⟨qs1, zs1, ls1⟩ := box_set (k := 1) (.int .i64 0) qs0 zs0 ls0 (by simp)
  obtain ⟨qs2, zs2, ls2⟩ := box_set (k := 2) (.int .i64 0) qs1 zs1 ls1 (by simp)
  obtain ⟨qs3, zs3, ls3⟩ := box_set (k := 3) (.int .i64 0) qs2 zs2 ls2 (by simp)
  obtain ⟨qs4, zs4, ls4⟩ := box_set (k := 4) (.int .i64 0) qs3 zs3 ls3 (by simp)
  exact bodyPost_ret (v := .tuple #[qv 0 0 0 0 0, .int .i64 3]) (by simp [results, Try.results15, go_sem, qs0, qs1, qs2, qs3, qs4]) rfl ⟨rfl, (((((hbw.setCell (Nat.le_refl _) _).setCell (Nat.le_refl _) _).setCell (Nat.le_refl _) _).setCell (Nat.le_refl _) _).setCell (Nat.le_refl _) _)⟩

set_option maxRecDepth 100000 in
set_option maxHeartbeats 2000000 in
theorem dec_tabN (f p q s t a m : Int) (b off cap : Nat) (w : World) (hB : b < w.heap.size) (f1 : 1 ≤ f) (f4 : f ≤ 4) (hp : 0 ≤ p ∧ p ≤ 255) (hq : 0 ≤ q ∧ q ≤ 255) (hs : 0 ≤ s ∧ s ≤ 255) (ht : 0 ≤ t ∧ t ≤ 255) (ha : p * 256 + q = a) (hm : s * 256 + t = m) (hv : vq f a m 0 0 = false) (c0 : w.cell? ⟨b, off, none⟩ = some (.int .u8 f)) (c1 : w.cell? ⟨b, off + 1, none⟩ = some (.int .u8 p)) (c2 : w.cell? ⟨b, off + 2, none⟩ = some (.int .u8 q)) (c3 : w.cell? ⟨b, off + 3, none⟩ = some (.int .u8 s)) (c4 : w.cell? ⟨b, off + 4, none⟩ = some (.int .u8 t)) :
    Calls Try.prog 15 #[.slice (some ⟨b, off, none⟩) 5 cap] w fun e w' => e = .returned (.tuple #[qv 0 0 0 0 0, .int .i64 3]) ∧ Below w.heap.size w w' := by
  obtain ⟨p0, p1⟩ := hp
  obtain ⟨q0, q1⟩ := hq
  obtain ⟨s0, s1⟩ := hs
  obtain ⟨t0, t1⟩ := ht
  have f17 : f ≠ 17 := by omega
  have f43 : f ≠ 43 := by omega
  have e1 := orI p q p0 p1 q0 q1
  have e2 := orI s t s0 s1 t0 t1
  rw [ha] at e1
  rw [hm] at e2
  have HE1 := Lib.hid e1; have HE2 := Lib.hid e2; clear e1 e2 ha hm
  have htab : ∀ w, Calls Try.prog 37 #[.int .i64 f] w fun e w' => e = .returned (.bool true) ∧ w = w' := fun w => by
    have := istab_any f w
    rw [show tabB f = true by simp [tabB]; omega] at this
    exact this
  have HT := Lib.hid htab; clear htab
  have hvv : ∀ w, Calls Try.prog 22 #[qv f a m 0 0] w fun e w' => e = .returned (.bool false) ∧ Below w.heap.size w w' := fun w => hv ▸ qvalid_any f a m 0 0 w
  have HV := Lib.hid hvv; clear hvv hv
  go_enter Try.func15, Try.ntmps15
  go_wp2_with fail
  go_in
  go_wp2_with fail
  refine (HT.out _).mono ?_
  rintro e w' ⟨rfl, rfl⟩
  go_wp2_with fail
  refine (HT.out _).mono ?_
  rintro e w' ⟨rfl, rfl⟩
  go_wp2
  go_region
  go_wp2_with fail
  rw [HE1.out, HE2.out]
  go_wp2_with fail
  refine (HV.out _).mono ?_
  rintro e w1 ⟨rfl, hb1⟩
  have hb2 := ((Below.refl _ (((w.alloc (.cells #[.int .i64 0, .int .i64 0, .int .i64 0, .int .i64 0, .int .i64 0] 29)).alloc (.cells #[.int .i64 f, .int .i64 a, .int .i64 m, .int .i64 0, .int .i64 0] 29)))).drew).trans hb1
  obtain ⟨q1, q2, z1, l1, l2, hbw⟩ := box2 hb2
  clear hb1 hb2
  go_wp2
  obtain ⟨qs0, zs0, ls0⟩ := box_set (k := 0) (.int .i64 0) q1 z1 l1 (by simp)
  obtain ⟨qs1, zs1, ls1⟩ := box_set (k := 1) (.int .i64 0) qs0 zs0 ls0 (by simp)
  obtain ⟨qs2, zs2, ls2⟩ := box_set (k := 2) (.int .i64 0) qs1 zs1 ls1 (by simp)
  obtain ⟨qs3, zs3, ls3⟩ := box_set (k := 3) (.int .i64 0) qs2 zs2 ls2 (by simp)
  obtain ⟨qs4, zs4, ls4⟩ := box_set (k := 4) (.int .i64 0) qs3 zs3 ls3 (by simp)
  exact bodyPost_ret (v := .tuple #[qv 0 0 0 0 0, .int .i64 3]) (by simp [results, Try.results15, go_sem, qs0, qs1, qs2, qs3, qs4]) rfl ⟨rfl, (((((hbw.setCell (Nat.le_refl _) _).setCell (Nat.le_refl _) _).setCell (Nat.le_refl _) _).setCell (Nat.le_refl _) _).setCell (Nat.le_refl _) _)⟩

end Go.Proofs.Ytoliplochipoeaa

/- Layer 10: the example of the chapter and the law RequestValid. -/
set_option linter.unusedVariables false
set_option linter.unusedSimpArgs false
namespace Go.Proofs.Ytoliplochipoeaa
open Go.RowKit

set_option maxRecDepth 100000 in
set_option maxHeartbeats 1000000 in
theorem qawake_any (w : World) : Calls Try.prog 16 #[] w fun e w' => e = .returned (.bool true) ∧ Below w.heap.size w w' := by
  have he : ∀ w, Calls Try.prog 8 #[qv 3 300 2 0 0] w fun e w' => ∃ A, e = .returned (.tuple #[.slice A 5 5, .int .i64 0]) ∧ Rd w' w'.heap.size 1 A 5 (by8 [3, 1, 44, 0, 2]) ∧ Below w.heap.size w w' := fun w => by
    refine (enc_yes 3 300 2 0 0 (by decide +kernel) w).mono ?_
    rintro e w' ⟨A, m, rfl, hm, hR, hb⟩
    obtain rfl : m = 5 := hm
    exact ⟨A, rfl, hR, hb⟩
  have hl : ∀ w, Calls Try.prog 38 #[.int .i64 1] w fun e w' => e = .returned (.int .i64 2000) ∧ w = w' := fun w => lim_any 1 w
  have HE := Lib.hid he; have HL := Lib.hid hl; clear he hl
  go_enter Try.func16, Try.ntmps16
  go_wp2_with fail
  refine (HE.out _).mono ?_
  rintro e w1 ⟨A1, rfl, hR1, hb1⟩
  go_wp2_with fail
  refine (dec_other 6 w1.heap.size 0 5 5 _ (by simp) (by omega) (by omega) (by omega) (by omega) (by omega) (by omega) (by rw [cell_of_row _ w1.heap.size 0 _ _ (0, 0) (heap_alloc_new w1 _)]; rfl)).mono ?_
  rintro e w2 ⟨rfl, hb2⟩
  have hb3 : Below w.heap.size w w2 := ext_alloc' hb1 (by simpa using hb2)
  have hR2 : Rd w2 w1.heap.size 1 A1 5 (by8 [3, 1, 44, 0, 2]) := (hR1.alloc' _ (Nat.le_refl _)).below hb2 (by simp)
  have hs : w1.heap.size ≤ w2.heap.size := by have := hb2.size; simp at this; omega
  have hc2 : ∀ o, (convert 22 9 (.slice A1 5 5)).run Try.prog (w2.alloc o) = .ok (.string (strOfNums [3, 1, 44, 0, 2])) (w2.alloc o) := fun o => (hR2.alloc' o hs).str
  have hc3 : ∀ (W : World) (N : Nat), W.heap.size = N → (convert 22 9 (.slice (some ⟨N, 0, none⟩) 5 5)).run Try.prog (W.alloc (.cells #[.int .u8 3, .int .u8 1, .int .u8 44, .int .u8 0, .int .u8 2] 5)) = .ok (.string (strOfNums [3, 1, 44, 0, 2])) (W.alloc (.cells #[.int .u8 3, .int .u8 1, .int .u8 44, .int .u8 0, .int .u8 2] 5)) := fun W N h => h ▸
    Rd.str (B := W.heap.size + 1) (xs := [3, 1, 44, 0, 2]) (Rd.lit rfl (Nat.lt_succ_self _))
  have hc4 := hc3 (w2.alloc (.cells #[.int .i64 0, .int .i64 0, .int .i64 0, .int .i64 0, .int .i64 0] 29)) (w2.heap.size + 1) (by simp)
  have hc5 := hc2 (.cells #[.int .i64 0, .int .i64 0, .int .i64 0, .int .i64 0, .int .i64 0] 29)
  clear hc2 hc3 hR1 hR2 hb1 hb2
  go_wp2_with fail
  refine (HL.out _).mono ?_
  rintro e w' ⟨rfl, rfl⟩
  go_wp2
  go_ret
  exact ⟨rfl, ext_alloc' (ext_alloc' hb3 (Below.refl _ _)) (Below.refl _ _)⟩

end Go.Proofs.Ytoliplochipoeaa

/- Layer 10: Make makes a valid request. -/
set_option linter.unusedVariables false
set_option linter.unusedSimpArgs false
namespace Go.Proofs.Ytoliplochipoeaa
open Go.RowKit

set_option maxRecDepth 100000 in
set_option maxHeartbeats 1000000 in
theorem make_any (k a b : Int) (w : World) : Calls Try.prog 7 #[.int .i64 k, .int .i64 a, .int .i64 b] w fun e w' => ∃ f x n c o, e = .returned (qv f x n c o) ∧ vq f x n c o = true ∧ Below w.heap.size w w' := by
  obtain ⟨j, hj⟩ : ∃ j, k % 6 = j := ⟨_, rfl⟩
  have hk : ∀ w, Calls Try.prog 6 #[.int .i64 k, .int .i64 6] w fun e w' => e = .returned (.int .i64 j) ∧ w = w' := fun w => hj ▸ mod_any k 6 (by omega) (by omega) w
  have hb : Below w.heap.size w (w.alloc (.cells #[.int .i64 0, .int .i64 0, .int .i64 0, .int .i64 0, .int .i64 0] 29)) := (Below.refl _ _).alloc (Nat.le_refl _) _
  have HK := Lib.hid hk; clear hk
  rcases (show j = 0 ∨ j = 1 ∨ j = 2 ∨ j = 3 ∨ j = 4 ∨ j = 5 by omega) with rfl | rfl | rfl | rfl | rfl | rfl
  case inr.inr.inr.inr.inl =>
    clear hj
    go_enter Try.func7, Try.ntmps7
    go_wp2_with fail
    refine (HK.out _).mono ?_
    rintro e w' ⟨rfl, rfl⟩
    go_wp2
    exact bodyPost_ret (v := qv 17 0 0 0 0) (by simp [results, Try.results7, go_sem]) rfl ⟨_, _, _, _, _, rfl, by decide, (Below.refl _ w).alloc (Nat.le_refl _) _⟩
  case inr.inr.inr.inr.inr =>
    obtain ⟨c, hc⟩ : ∃ c, a % 3 = c := ⟨_, rfl⟩
    obtain ⟨o, ho⟩ : ∃ o, b % 256 = o := ⟨_, rfl⟩
    have hc1 : 0 ≤ c ∧ c < 3 := by omega
    have ho1 : 0 ≤ o ∧ o < 256 := by omega
    obtain ⟨c0, c3⟩ := hc1
    obtain ⟨o0, o3⟩ := ho1
    have hka : ∀ w, Calls Try.prog 6 #[.int .i64 a, .int .i64 3] w fun e w' => e = .returned (.int .i64 c) ∧ w = w' := fun w => hc ▸ mod_any a 3 (by omega) (by omega) w
    have hkb : ∀ w, Calls Try.prog 6 #[.int .i64 b, .int .i64 256] w fun e w' => e = .returned (.int .i64 o) ∧ w = w' := fun w => ho ▸ mod_any b 256 (by omega) (by omega) w
    have HA := Lib.hid hka; have HB := Lib.hid hkb
    clear hj hc ho hka hkb
    go_enter Try.func7, Try.ntmps7
    go_wp2_with fail
    refine (HK.out _).mono ?_
    rintro e w' ⟨rfl, rfl⟩
    go_wp2_with fail
    refine (HA.out _).mono ?_
    rintro e w' ⟨rfl, rfl⟩
    go_wp2_with fail
    refine (HB.out _).mono ?_
    rintro e w' ⟨rfl, rfl⟩
    go_wp2
    exact bodyPost_ret (v := qv 43 0 0 (1 + c) o) (by simp [results, Try.results7, go_sem]) rfl ⟨_, _, _, _, _, rfl, by simp [vq]; omega, (Below.refl _ w).alloc (Nat.le_refl _) _⟩
  all_goals
    obtain ⟨L, hL⟩ : ∃ L, L = limZ (1 + k % 6) := ⟨_, rfl⟩
    rw [hj] at hL
    have hL' : L = 2000 ∨ L = 125 := by first | (left; exact hL) | (right; exact hL)
    have hlim : ∀ w, Calls Try.prog 21 #[.int .i64 _] w fun e w' => e = .returned (.int .i64 L) ∧ w = w' := fun w => hL ▸ rlim_any _ w
    obtain ⟨m, hm⟩ : ∃ m, b % L = m := ⟨_, rfl⟩
    have hm1 : 0 ≤ m ∧ m < L := by
      have := Int.emod_nonneg b (show L ≠ 0 by omega)
      have := Int.emod_lt_of_pos b (show 0 < L by omega)
      omega
    obtain ⟨m0, m1⟩ := hm1
    obtain ⟨x, hx⟩ : ∃ x, a % (65536 - (1 + m) + 1) = x := ⟨_, rfl⟩
    have hx1 : 0 ≤ x ∧ x < 65536 - (1 + m) + 1 := by
      have := Int.emod_nonneg a (show 65536 - (1 + m) + 1 ≠ 0 by omega)
      have := Int.emod_lt_of_pos a (show 0 < 65536 - (1 + m) + 1 by omega)
      omega
    obtain ⟨x0, x1⟩ := hx1
    have hkb : ∀ w, Calls Try.prog 6 #[.int .i64 b, .int .i64 L] w fun e w' => e = .returned (.int .i64 m) ∧ w = w' := fun w => hm ▸ mod_any b L (by omega) (by omega) w
    have hka : ∀ w, Calls Try.prog 6 #[.int .i64 a, .int .i64 (65536 - (1 + m) + 1)] w fun e w' => e = .returned (.int .i64 x) ∧ w = w' := fun w => hx ▸ mod_any a _ (by omega) (by omega) w
    have HLL := Lib.hid hL
    have HA := Lib.hid hka; have HB := Lib.hid hkb; have HL := Lib.hid hlim
    have hL2 : L ≤ 2000 := by omega
    clear hj hm hx hka hkb hlim hL hL'
    go_enter Try.func7, Try.ntmps7
    go_wp2_with fail
    refine (HK.out _).mono ?_
    rintro e w' ⟨rfl, rfl⟩
    go_wp2_with fail
    refine (HL.out _).mono ?_
    rintro e w' ⟨rfl, rfl⟩
    go_wp2_with fail
    refine (HB.out _).mono ?_
    rintro e w' ⟨rfl, rfl⟩
    go_wp2_with fail
    refine (HA.out _).mono ?_
    rintro e w' ⟨rfl, rfl⟩
    go_wp2
    first
      | exact bodyPost_ret (v := qv 1 x (1 + m) 0 0) (by simp [results, Try.results7, go_sem]) rfl ⟨_, _, _, _, _, rfl, by have := HLL.out; simp at this; simp [vq, ← this]; omega, (Below.refl _ w).alloc (Nat.le_refl _) _⟩
      | exact bodyPost_ret (v := qv 2 x (1 + m) 0 0) (by simp [results, Try.results7, go_sem]) rfl ⟨_, _, _, _, _, rfl, by have := HLL.out; simp at this; simp [vq, ← this]; omega, (Below.refl _ w).alloc (Nat.le_refl _) _⟩
      | exact bodyPost_ret (v := qv 3 x (1 + m) 0 0) (by simp [results, Try.results7, go_sem]) rfl ⟨_, _, _, _, _, rfl, by have := HLL.out; simp at this; simp [vq, ← this]; omega, (Below.refl _ w).alloc (Nat.le_refl _) _⟩
      | exact bodyPost_ret (v := qv 4 x (1 + m) 0 0) (by simp [results, Try.results7, go_sem]) rfl ⟨_, _, _, _, _, rfl, by have := HLL.out; simp at this; simp [vq, ← this]; omega, (Below.refl _ w).alloc (Nat.le_refl _) _⟩
end Go.Proofs.Ytoliplochipoeaa

/- TopWire: the settings, the bits, Decode of Encode. -/
set_option linter.unusedVariables false
set_option linter.unusedSimpArgs false
namespace Go.Proofs.Ytoliplochipoeaa
open Go.RowKit

theorem stCells_at (l : List (Int × Int)) (k : Nat) (hk : k < l.length) : (stCells l)[k * 2]? = some (.int .i64 l[k].1) ∧ (stCells l)[k * 2 + 1]? = some (.int .i64 l[k].2) := by
  have h : ∀ r ∈ l.map stRow, r.length = 2 := by intro r hr; obtain ⟨o, _, rfl⟩ := List.mem_map.1 hr; rfl
  have g := fun j (hj : j < 2) => flatten_get h k j (by simpa using hk) hj
  refine ⟨?_, ?_⟩
  · have := g 0 (by omega); simpa [stCells, stRow] using this
  · have := g 1 (by omega); simpa [stCells, stRow] using this
theorem set24 (k : Nat) (hk : k < 24) : ∃ b p : Int, (stCells allL)[k * 2]? = some (.int .i64 b) ∧ (stCells allL)[k * 2 + 1]? = some (.int .i64 p) ∧ 0 ≤ p ∧ p ≤ 2 ∧ validB b p = true ∧ 0 ≤ charZ b p ∧ charZ b p ≤ 10000 ∧ 6 * charZ b p / 11 + 1 ≤ t15Z b p ∧ t15Z b p < t35Z b p := by
  have hl : k < allL.length := by rw [all_length]; exact hk
  obtain ⟨h1, h2⟩ := stCells_at allL k hl
  have h : ∀ k : Fin 24, 0 ≤ (allL[(k : Nat)]'(by rw [all_length]; exact k.2)).2 ∧ (allL[(k : Nat)]'(by rw [all_length]; exact k.2)).2 ≤ 2 ∧ validB (allL[(k : Nat)]'(by rw [all_length]; exact k.2)).1 (allL[(k : Nat)]'(by rw [all_length]; exact k.2)).2 = true ∧ 0 ≤ charZ (allL[(k : Nat)]'(by rw [all_length]; exact k.2)).1 (allL[(k : Nat)]'(by rw [all_length]; exact k.2)).2 ∧ charZ (allL[(k : Nat)]'(by rw [all_length]; exact k.2)).1 (allL[(k : Nat)]'(by rw [all_length]; exact k.2)).2 ≤ 10000 ∧ 6 * charZ (allL[(k : Nat)]'(by rw [all_length]; exact k.2)).1 (allL[(k : Nat)]'(by rw [all_length]; exact k.2)).2 / 11 + 1 ≤ t15Z (allL[(k : Nat)]'(by rw [all_length]; exact k.2)).1 (allL[(k : Nat)]'(by rw [all_length]; exact k.2)).2 ∧ t15Z (allL[(k : Nat)]'(by rw [all_length]; exact k.2)).1 (allL[(k : Nat)]'(by rw [all_length]; exact k.2)).2 < t35Z (allL[(k : Nat)]'(by rw [all_length]; exact k.2)).1 (allL[(k : Nat)]'(by rw [all_length]; exact k.2)).2 := by decide +kernel
  exact ⟨_, _, h1, h2, h ⟨k, hk⟩⟩
/-- Idle bits ahead of character k. -/
def ids7 (is : List Int) (k : Nat) : Nat := if k < is.length then (is.getD k 0).toNat % 7 else 0
theorem ids7_le (is : List Int) (k : Nat) : ids7 is k ≤ 6 := by unfold ids7; split <;> omega
/-- With two idle bits in front. -/
def ids2 (ds : Nat → Nat) (k : Nat) : Nat := if k = 0 then ds 0 + 2 else ds k
theorem line_two (bs ds : Nat → Nat) (p : Int) (k : Nat) (hk : 1 ≤ k) : [true, true] ++ lineTo bs ds p k = lineTo bs (ids2 ds) p k := by
  obtain ⟨j, rfl⟩ : ∃ j, k = j + 1 := ⟨k - 1, by omega⟩
  clear hk
  induction j with
  | zero =>
    have e : ids2 ds 0 = ds 0 + 1 + 1 := rfl
    simp only [lineTo, e, List.replicate_succ, List.nil_append, List.cons_append]
  | succ j ih =>
    have e1 : lineTo bs ds p (j + 1 + 1) = lineTo bs ds p (j + 1) ++ List.replicate (ds (j + 1)) true ++ encode (bs (j + 1)) p := rfl
    have e2 : lineTo bs (ids2 ds) p (j + 1 + 1) = lineTo bs (ids2 ds) p (j + 1) ++ List.replicate (ds (j + 1)) true ++ encode (bs (j + 1)) p := rfl
    rw [e1, e2, ← ih]
    simp only [List.append_assoc]
theorem pos_two (ds : Nat → Nat) (k : Nat) (hk : 1 ≤ k) : posTo (ids2 ds) k = posTo ds k + 2 := by
  obtain ⟨j, rfl⟩ : ∃ j, k = j + 1 := ⟨k - 1, by omega⟩
  clear hk
  induction j with
  | zero => simp [posTo, ids2] <;> omega
  | succ j ih =>
    have e1 : posTo ds (j + 1 + 1) = posTo ds (j + 1) + ds (j + 1) + 11 := rfl
    have e2 : posTo (ids2 ds) (j + 1 + 1) = posTo (ids2 ds) (j + 1) + ds (j + 1) + 11 := rfl
    omega
theorem pos7_le (ds : Nat → Nat) (h : ∀ k, ds k ≤ 6) (k : Nat) : posTo ds k ≤ 17 * k := by
  induction k with
  | zero => simp [posTo]
  | succ k ih => have := h k; rw [posTo]; omega
theorem encL_bd {f a n c o : Int} (hv : vq f a n c o = true) : (∀ x ∈ encL f a n c o, 0 ≤ x ∧ x ≤ 255) ∧ 1 ≤ (encL f a n c o).length ∧ (encL f a n c o).length ≤ 5 := by
  rcases vq_cases hv with ⟨rfl, rfl, rfl, rfl, rfl⟩ | ⟨rfl, h1, h2, h3, h4, rfl, rfl⟩ | ⟨h1, h2, h3, h4, h5, h6, h7, rfl, rfl⟩
  · refine ⟨?_, by decide, by decide⟩
    intro x hx; simp [encL] at hx; omega
  · rw [encL, if_neg (by omega), if_pos rfl]
    refine ⟨?_, by simp, by simp⟩
    intro x hx
    simp only [List.mem_cons, List.not_mem_nil, or_false] at hx
    omega
  · rw [encL, if_neg (by omega), if_neg (by omega)]
    refine ⟨?_, by simp, by simp⟩
    intro x hx
    simp only [List.mem_cons, List.not_mem_nil, or_false] at hx
    omega
/-- Decode reads what Encode writes. -/
theorem dec_of_enc {f a n c o : Int} (hv : vq f a n c o = true) (A : Option Addr) (m cap : Nat) (w : World) (hm : (encL f a n c o).length = m) (hr : Rd w w.heap.size 1 A m (by8 (encL f a n c o))) :
    Calls Try.prog 15 #[.slice A m cap] w fun e w' => e = .returned (.tuple #[qv f a n c o, .int .i64 0]) ∧ Below w.heap.size w w' := by
  rcases vq_cases hv with ⟨rfl, rfl, rfl, rfl, rfl⟩ | ⟨rfl, h1, h2, h3, h4, rfl, rfl⟩ | ⟨h1, h2, h3, h4, h5, h6, h7, rfl, rfl⟩
  · obtain rfl : m = 1 := by rw [← hm]; rfl
    obtain ⟨b, off, rfl, hb, hc⟩ := hr.get8 (by omega)
    exact dec_srvY 0 b off cap w hb rfl (by simpa using hc 0 17 rfl)
  · have e : encL 43 0 0 c o = [43, 14, c, o] := by rw [encL, if_neg (by omega), if_pos rfl]
    rw [e] at hm hr
    obtain rfl : m = 4 := by rw [← hm]; rfl
    obtain ⟨b, off, rfl, hb, hc⟩ := hr.get8 (by omega)
    exact dec_devY c o b off cap w hb hv (by omega) (by omega) (by simpa using hc 0 43 rfl) (hc 1 14 rfl) (hc 2 c rfl) (hc 3 o rfl)
  · have e : encL f a n 0 0 = [f, a / 256, a % 256, n / 256, n % 256] := by rw [encL, if_neg (by omega), if_neg (by omega)]
    rw [e] at hm hr
    obtain rfl : m = 5 := by rw [← hm]; rfl
    obtain ⟨b, off, rfl, hb, hc⟩ := hr.get8 (by omega)
    exact dec_tabY f (a / 256) (a % 256) (n / 256) (n % 256) a n b off cap w hb h1 h2 (by omega) (by omega) (by omega) (by omega) (by omega) (by omega) hv (by simpa using hc 0 f rfl) (hc 1 _ rfl) (hc 2 _ rfl) (hc 3 _ rfl) (hc 4 _ rfl)
theorem bs_vals {fs : List Int} (hb : ∀ x ∈ fs, 0 ≤ x ∧ x ≤ 255) (n : Nat) (hn : fs.length = n) : (List.range n).map (fun j => ((bsOf fs j : Nat) : Int)) = fs := by
  apply List.ext_getElem?
  intro j
  rw [List.getElem?_map]
  by_cases h : j < n
  · have hj : j < fs.length := by omega
    have := hb fs[j] (List.getElem_mem _)
    rw [List.getElem?_range h, List.getElem?_eq_getElem hj]
    simp only [Option.map_some, bsOf, List.getD, List.getElem?_eq_getElem hj, Option.getD_some]
    congr 1
    omega
  · rw [List.getElem?_eq_none (by simp; omega), List.getElem?_eq_none (by omega)]; rfl
end Go.Proofs.Ytoliplochipoeaa

/- Layer 10: the reference's ValidReply and EncodeReply of an exception reply. -/
set_option linter.unusedVariables false
set_option linter.unusedSimpArgs false
namespace Go.Proofs.Ytoliplochipoeaa
open Go.RowKit

/-- A request's function. -/
def FnOk (f : Int) : Prop := (1 ≤ f ∧ f ≤ 4) ∨ f = 17 ∨ f = 43
theorem vq_fn {f a n c o : Int} (h : vq f a n c o = true) : FnOk f := by
  rcases vq_cases h with h | h | h
  · exact .inr (.inl h.1)
  · exact .inr (.inr h.1)
  · exact .inl ⟨h.1, h.2.1⟩
def exV (f : Int) : Value := .agg #[.int .i64 f, .int .i64 2, .slice none 0 0, .int .i64 0, .int .i64 0, .bool false, .int .i64 0, .slice none 0 0]

theorem rfn_any (f : Int) (hf : FnOk f) (w : World) : Calls Try.prog 55 #[.int .i64 f] w fun e w' => e = .returned (.bool true) ∧ w = w' := by
  have h1 : (1 ≤ f ∧ f ≤ 4) ∨ f = 17 ∨ f = 43 := hf
  clear hf
  go_enter Try.func55, Try.ntmps55
  by_cases ha : 1 ≤ f ∧ f ≤ 4
  · obtain ⟨ha1, ha2⟩ := ha
    clear h1
    go_wp2
    go_ret
    exact ⟨rfl, rfl⟩
  · rcases h1 with h1 | rfl | rfl
    · exact absurd h1 ha
    · go_wp2
      go_ret
      exact ⟨rfl, rfl⟩
    · go_wp2
      go_ret
      exact ⟨rfl, rfl⟩

set_option maxRecDepth 100000 in
set_option maxHeartbeats 2000000 in
theorem vrep_any (f : Int) (hf : FnOk f) (w : World) : Calls Try.prog 39 #[exV f] w fun e w' => e = .returned (.bool true) ∧ Below w.heap.size w w' := by
  have HC := Lib.hid (rfn_any f hf)
  unfold exV
  go_enter Try.func39, Try.ntmps39
  go_wp2_with fail
  refine (HC.out _).mono ?_
  rintro e w1 ⟨rfl, rfl⟩
  have hb := (Below.refl w.heap.size w).alloc (Nat.le_refl _) (.cells #[.int .i64 f, .int .i64 2, .slice none 0 0, .int .i64 0, .int .i64 0, .bool false, .int .i64 0, .slice none 0 0] 56)
  have HB := Lib.hid hb
  have hx := Box.alloc_ (w := w) (cs := #[.int .i64 f, .int .i64 2, .slice none 0 0, .int .i64 0, .int .i64 0, .bool false, .int .i64 0, .slice none 0 0]) (e := 56)
  clear hb
  obtain ⟨q1, z1, l1⟩ := hx
  go_wp2
  go_ret
  exact ⟨rfl, HB.out⟩

set_option maxRecDepth 100000 in
set_option maxHeartbeats 2000000 in
theorem erep_any (f : Int) (hf : FnOk f) (w : World) : Calls Try.prog 17 #[exV f] w fun e w' => ∃ A, e = .returned (.tuple #[.slice A 2 2, .int .i64 0]) ∧ Rd w' w'.heap.size 1 A 2 (by8 [f + 128, 2]) ∧ Below w.heap.size w w' := by
  have HC := Lib.hid (vrep_any f hf)
  have h0 : 1 ≤ f ∧ f ≤ 43 := by rcases hf with h | h | h <;> omega
  obtain ⟨h01, h02⟩ := h0
  clear hf
  unfold exV at HC ⊢
  go_enter Try.func17, Try.ntmps17
  go_wp2_with fail
  refine (HC.out _).mono ?_
  rintro e w1 ⟨rfl, hb1⟩
  have hb := ext_alloc' (Below.refl _ w) (by simpa using hb1)
  obtain ⟨q1, _, l1⟩ := box_new hb1
  clear hb1
  have e1 : IntKind.i64.wrap (f + 128) = f + 128 := IntWalk.i64_in _ ⟨by omega, by omega⟩
  have e2 : IntKind.u8.wrap (f + 128) = f + 128 := IntWalk.u8_in _ ⟨by omega, by omega⟩
  have e3 : IntKind.u8.wrap 2 = 2 := by decide
  go_wp2
  go_ret2
  exact ⟨_, rfl, Rd.lit rfl (by simp), ext_alloc' hb (Below.refl _ _)⟩
end Go.Proofs.Ytoliplochipoeaa

/- Layer 19: link.Judge of a frame whose flags are not zero. -/
set_option linter.unusedVariables false
set_option linter.unusedSimpArgs false
namespace Go.Proofs.Ytoliplochipoeaa
open Go.RowKit

abbrev garbV : Value := .agg #[.int .i64 4, .int .i64 0, .int .i64 0, .slice none 0 0, .int .i64 0, .int .i64 0, .bool false, .int .i64 0, .slice none 0 0]
theorem alloc4 (w : World) (c1 c2 c3 c4 : Array Value) (e1 e2 e3 e4 : TypeId) : ∃ W, (((w.alloc (.cells c1 e1)).alloc (.cells c2 e2)).alloc (.cells c3 e3)).alloc (.cells c4 e4) = W ∧ Box W (w.heap.size + 1) c2 ∧ Box W (w.heap.size + 1 + 1) c3 ∧ Box W (w.heap.size + 1 + 1 + 1) c4 ∧ Below w.heap.size w W := by
  refine ⟨_, rfl, ?_, ?_, ?_, ?_⟩
  · have h := ((Box.alloc_ (w := w.alloc (.cells c1 e1)) (cs := c2) (e := e2)).below ((Below.refl _ _).alloc (Nat.le_refl _) (.cells c3 e3))).below ((Below.refl _ _).alloc (Nat.le_refl _) (.cells c4 e4))
    rwa [show (w.alloc (.cells c1 e1)).heap.size = w.heap.size + 1 by simp] at h
  · have h := (Box.alloc_ (w := (w.alloc (.cells c1 e1)).alloc (.cells c2 e2)) (cs := c3) (e := e3)).below ((Below.refl _ _).alloc (Nat.le_refl _) (.cells c4 e4))
    rwa [show ((w.alloc (.cells c1 e1)).alloc (.cells c2 e2)).heap.size = w.heap.size + 1 + 1 by simp] at h
  · have h := Box.alloc_ (w := ((w.alloc (.cells c1 e1)).alloc (.cells c2 e2)).alloc (.cells c3 e3)) (cs := c4) (e := e4)
    rwa [show (((w.alloc (.cells c1 e1)).alloc (.cells c2 e2)).alloc (.cells c3 e3)).heap.size = w.heap.size + 1 + 1 + 1 by simp] at h
  · exact ext_alloc' (ext_alloc' (ext_alloc' (ext_alloc' (Below.refl _ _) (Below.refl _ _)) (Below.refl _ _)) (Below.refl _ _)) (Below.refl _ _)

set_option maxRecDepth 100000 in
set_option maxHeartbeats 4000000 in
theorem judge_flag (u f a n c o : Int) (pdu : List Int) (A : Option Addr) (m cap N : Nat) (fi la : Int) (w : World) (hu : 1 ≤ u ∧ u ≤ 247) (hr : Rd w w.heap.size 1 A (m + 3) (by8 (frameL u pdu))) (hx : ∀ x ∈ pdu, 0 ≤ x ∧ x ≤ 255) (hl : pdu.length = m) (hm : 1 ≤ m) (hm2 : m ≤ 253) (hc : m + 3 ≤ cap) (hcm : cap ≤ maxLen) (hN : m + 3 = N) :
    Calls Try.prog 18 #[.int .i64 u, qv f a n c o, .agg #[.slice A N cap, .int .i64 fi, .int .i64 la, .int .i64 1]] w fun e w' => e = .returned garbV ∧ Below w.heap.size w w' := by
  have HS := Lib.hid (fun (W : World) (hb : Below w.heap.size w W) => hN ▸ aduSplit_yes u pdu A m cap W hu ((hr.below hb (Nat.le_refl _)).more hb.size) hx hl hm hm2 hc hcm)
  clear hr hx hl hm hm2 hc hcm hu hN
  go_enter Try.func18, Try.ntmps18
  go_upto_region 2 with fail
  obtain ⟨W1, hW1, x2, x3, x4, hb⟩ := alloc4 w #[.int .i64 f, .int .i64 a, .int .i64 n, .int .i64 c, .int .i64 o] #[.slice A N cap, .int .i64 fi, .int .i64 la, .int .i64 1] #[.int .i64 0, .int .i64 0, .int .i64 0, .slice none 0 0, .int .i64 0, .int .i64 0, .bool false, .int .i64 0, .slice none 0 0] #[.int .i64 4, .int .i64 0, .int .i64 0, .slice none 0 0, .int .i64 0, .int .i64 0, .bool false, .int .i64 0, .slice none 0 0] 29 46 58 58
  rw [hW1]
  clear hW1
  have HX2 := Lib.hid x2
  have HX3 := Lib.hid x3
  have HX4 := Lib.hid x4
  have HB := Lib.hid hb
  obtain ⟨q2, z2, l2⟩ := x2
  obtain ⟨g3, hg3⟩ : ∃ g, w.heap.size + 1 + 1 = g := ⟨_, rfl⟩
  obtain ⟨g2, hg2⟩ : ∃ g, w.heap.size + 1 = g := ⟨_, rfl⟩
  obtain ⟨g4, hg4⟩ : ∃ g, g3 + 1 = g := ⟨_, rfl⟩
  have hl3 : w.heap.size ≤ g3 := by omega
  clear x3 x4 hb q2 z2 l2
  rw [hg3] at HX3 HX4 ⊢
  rw [hg4] at HX4 ⊢
  rw [hg2] at HX2 ⊢
  clear hg3 hg2 hg4
  obtain ⟨q2, z2, l2⟩ := HX2.out
  go_wp2_with fail
  refine (HS.out _ HB.out).mono ?_
  rintro e w2 ⟨v2, rfl, hown2, hb2⟩
  obtain ⟨q2, z2, l2⟩ := HX2.out.below hb2
  obtain ⟨q3, z3, l3⟩ := HX3.out.below hb2
  obtain ⟨q4, z4, l4⟩ := HX4.out.below hb2
  have HBE := Lib.hid (ext_trans HB.out hb2)
  have HX3' := Lib.hid (HX3.out.below hb2)
  clear hown2 hb2
  go_wp2_with fail
  have hx := (((((((((HX3'.out.set (k := 0) (v := .int .i64 4) (by decide) rfl).set (k := 1) (v := .int .i64 0) (by decide) rfl).set (k := 2) (v := .int .i64 0) (by decide) rfl).set (k := 3) (v := .slice none 0 0) (by decide) rfl).set (k := 4) (v := .int .i64 0) (by decide) rfl).set (k := 5) (v := .int .i64 0) (by decide) rfl).set (k := 6) (v := .bool false) (by decide) rfl).set (k := 7) (v := .int .i64 0) (by decide) rfl).set (k := 8) (v := .slice none 0 0) (by decide) rfl)
  have hbf := (((((((((HBE.out.setCell (p := ⟨g3, 0, none⟩) hl3 (.int .i64 4)).setCell (p := ⟨g3, 1, none⟩) hl3 (.int .i64 0)).setCell (p := ⟨g3, 2, none⟩) hl3 (.int .i64 0)).setCell (p := ⟨g3, 3, none⟩) hl3 (.slice none 0 0)).setCell (p := ⟨g3, 4, none⟩) hl3 (.int .i64 0)).setCell (p := ⟨g3, 5, none⟩) hl3 (.int .i64 0)).setCell (p := ⟨g3, 6, none⟩) hl3 (.bool false)).setCell (p := ⟨g3, 7, none⟩) hl3 (.int .i64 0)).setCell (p := ⟨g3, 8, none⟩) hl3 (.slice none 0 0))
  obtain ⟨Wf, hWf⟩ : ∃ W, (((((((((w2.setCell ⟨g3, 0, none⟩ (.int .i64 4)).setCell ⟨g3, 1, none⟩ (.int .i64 0)).setCell ⟨g3, 2, none⟩ (.int .i64 0)).setCell ⟨g3, 3, none⟩ (.slice none 0 0)).setCell ⟨g3, 4, none⟩ (.int .i64 0)).setCell ⟨g3, 5, none⟩ (.int .i64 0)).setCell ⟨g3, 6, none⟩ (.bool false)).setCell ⟨g3, 7, none⟩ (.int .i64 0)).setCell ⟨g3, 8, none⟩ (.slice none 0 0)) = W := ⟨_, rfl⟩
  rw [hWf] at hx hbf ⊢
  clear hWf q2 z2 l2 q3 z3 l3 q4 z4 l4
  obtain ⟨qf, zf, lf⟩ := hx
  exact bodyPost_ret (v := garbV) (by simp [results, Try.results18, go_sem, qf]) rfl ⟨rfl, hbf⟩
end Go.Proofs.Ytoliplochipoeaa

/- The events of a stream, of which the first i have their ticks. -/
set_option linter.unusedVariables false
set_option linter.unusedSimpArgs false
namespace Go.Proofs.Ytoliplochipoeaa
open Go.RowKit

def mixRow (bs ds : Nat → Nat) (ch c : Int) (i k : Nat) : List Value := [.int .i64 (if k < i then tickZ ds ch k else ((posTo ds k + ds k + 10 : Nat) : Int)), .int .u8 (bs k), .int .i64 c]
def evMix (bs ds : Nat → Nat) (ch c : Int) (N i : Nat) : List Value := ((List.range N).map (mixRow bs ds ch c i)).flatten
theorem mix_len3 (bs ds : Nat → Nat) (ch c : Int) (N i : Nat) : ∀ r ∈ (List.range N).map (mixRow bs ds ch c i), r.length = 3 := by
  intro r hr; obtain ⟨o, _, rfl⟩ := List.mem_map.1 hr; rfl
theorem evMix_get (bs ds : Nat → Nat) (ch c : Int) (N i k : Nat) (hk : k < N) (j : Nat) (hj : j < 3) : (evMix bs ds ch c N i)[k * 3 + j]? = (mixRow bs ds ch c i k)[j]? := by
  have g := flatten_get (mix_len3 bs ds ch c N i) k j (by simpa using hk) hj
  simpa [evMix] using g
theorem evMix_length (bs ds : Nat → Nat) (ch c : Int) (N i : Nat) : (evMix bs ds ch c N i).length = N * 3 := by
  unfold evMix
  induction N with
  | zero => rfl
  | succ n ih => rw [List.range_succ, List.map_append, List.flatten_append, List.length_append, ih]; simp [mixRow]; omega
theorem evMix_start (bs ds : Nat → Nat) (ch c : Int) (N : Nat) : uevCells ((List.range N).map (evF bs ds c)) = evMix bs ds ch c N 0 := by
  unfold uevCells evMix
  rw [List.map_map]
  congr 1
theorem evMix_end (bs ds : Nat → Nat) (ch c : Int) (N : Nat) : evMix bs ds ch c N N = evCells (evL bs ds ch c N 0) := by
  have h : (List.range N).map (mixRow bs ds ch c N) = (evL bs ds ch c N 0).map fun e => [Value.int .i64 e.at_, .int .u8 e.val, .int .i64 e.fl] := by
    apply List.ext_getElem?
    intro j
    rw [List.getElem?_map, List.getElem?_map]
    by_cases hj : j < N
    · rw [List.getElem?_range hj, evL_get bs ds ch c N 0 j hj]
      simp [mixRow, hj]
    · rw [List.getElem?_eq_none (by simp; omega), List.getElem?_eq_none (by rw [evL_len]; omega)]; rfl
  unfold evMix
  rw [h]
theorem evMix_set (bs ds : Nat → Nat) (ch c : Int) (N i : Nat) (hi : i < N) : (evMix bs ds ch c N i).set (i * 3) (.int .i64 (tickZ ds ch i)) = evMix bs ds ch c N (i + 1) := by
  apply List.ext_getElem?
  intro x
  by_cases hx : x < N * 3
  · obtain ⟨k, j, rfl, hj⟩ : ∃ k j, x = k * 3 + j ∧ j < 3 := ⟨x / 3, x % 3, by omega, by omega⟩
    have hk : k < N := by omega
    rw [evMix_get bs ds ch c N (i + 1) k hk j hj]
    by_cases he : i * 3 = k * 3 + j
    · obtain rfl : k = i := by omega
      obtain rfl : j = 0 := by omega
      rw [he, List.getElem?_set_self (by rw [evMix_length]; omega)]
      simp [mixRow]
    · rw [List.getElem?_set_ne he, evMix_get bs ds ch c N i k hk j hj]
      by_cases hki : k = i
      · subst hki
        have : j = 1 ∨ j = 2 := by omega
        rcases this with rfl | rfl <;> rfl
      · have e : mixRow bs ds ch c i k = mixRow bs ds ch c (i + 1) k := by
          unfold mixRow
          by_cases h : k < i
          · rw [if_pos h, if_pos (by omega)]
          · rw [if_neg h, if_neg (by omega)]
        rw [e]
  · rw [List.getElem?_eq_none (by rw [List.length_set, evMix_length]; omega), List.getElem?_eq_none (by rw [evMix_length]; omega)]
theorem tick_eq (ds : Nat → Nat) (ch : Int) (k : Nat) (at0 : Int) (h : ((posTo ds k + ds k + 10 : Nat) : Int) = at0) : tickZ ds ch k = ((at0 + 1) * ch + 10) / 11 := by
  have e : (posTo ds (k + 1) : Int) = at0 + 1 := by rw [← h, posTo]; omega
  rw [tickZ, e]
end Go.Proofs.Ytoliplochipoeaa

/- Drawn regions: append of a slice that may be nil, as one operation. -/
set_option linter.unusedVariables false
set_option linter.unusedSimpArgs false
namespace Go.Proofs.Ytoliplochipoeaa
open Go.RowKit

theorem wp_appO {P : Program} {w : World} {o : Oper} {a : Act} {K : Act → World → Prop} {R : Exit → Act → World → Prop}
    (s x : Operand) (t : TypeId) (base : Nat) (e : TypeId) (z : Value) (size bytes : Nat) (v : Value) (n : Nat) (xs : List Value) (B : Nat) (A : Option Addr) (m c : Nat) (news : List Value)
    (ht : P.underlying t = some (.slice e)) (hE : (P.info? e).map (fun i => (i.zero, i.size, i.bytes)) = some (some z, size, bytes)) (hzs : z.cells.size = size) (hsz : 0 < size)
    (ho : o.op = .call { callee := .builtin .append, args := #[s, x], argTypes := #[t, t] })
    (hs : a.eval s = v) (hx : a.eval x = .slice A m c) (hown : w.ownsRow base e size v n xs) (hr : Rd w B size A m news) (h1 : ∀ u ∈ news, u.oneCell' = true)
    (h63 : n + m ≤ 1000000) (hby : bytes ≤ 1000) (hbase : base ≤ w.heap.size)
    (h : ∀ v' w', w'.ownsRow base e size v' (n + m) (xs ++ news) → w.grownBy w' v.ownBlock → OwnNext w v v' → Below base w w' → K (a.put o.dst v') w') :
    o.wp P a w K R := by
  rcases A with _ | ad
  · obtain ⟨i, hi, hz, hsize, hbytes⟩ := info_parts hE
    have hm : m = 0 := by
      rcases Nat.eq_zero_or_pos m with h0 | h0
      · exact h0
      · obtain ⟨b, off, h, _⟩ := hr.2 h0
        cases h
    subst hm
    have hn : news = [] := List.eq_nil_of_length_eq_zero (by simpa using hr.1)
    subst hn
    have hrun : (Builtin.append_ #[t, t] o.type #[v, .slice none 0 c]).run P w = .ok v w := by
      rcases hown.2 with ⟨rfl, rfl⟩ | ⟨g, cap, cur, rfl, _, _, hnc, _⟩
      · simp [Builtin.append_, run_underlying ht, sizeOf, typeInfo, hi, Builtin.lenOf, Builtin.firstCells]
      · simp [Builtin.append_, run_underlying ht, sizeOf, typeInfo, hi, Builtin.lenOf, Builtin.firstCells, hnc, storeCells]
    unfold Oper.wp execOp
    simp only [ho, resolve, invoke, builtin, Sem.run_bind, Sem.run_pure, Result.andThen_ok, List.map_toArray, List.map_cons, List.map_nil, hs, hx, hrun]
    exact h v w (by simpa using hown) (World.grownBy.refl w _) (.inl rfl) (Below.refl _ _)
  · exact wp_appR s x t base e z size bytes v n xs B ad m c news ht hE hzs hsz ho hs hx hown hr h1 h63 hby hbase h
end Go.Proofs.Ytoliplochipoeaa


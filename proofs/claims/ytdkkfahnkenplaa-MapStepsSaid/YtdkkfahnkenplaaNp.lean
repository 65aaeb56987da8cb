/- Layer 25: the map's state; contracts of ended, size, Queries. -/
import Derived.Test.YtdkkfahnkenplaaMapR
import Derived.Test.YtdkkfahnkenplaaRegQ
import Derived.Deep.QuietTactic
import Derived.BigQuiet
set_option linter.unusedVariables false
set_option linter.unusedSimpArgs false
namespace Go.Proofs.Ytdkkfahnkenplaa
open Go.RowKit
variable {F : Nat → Prop}

structure Mst where
  tb : Int
  fs : Int
  N : Nat
  M : Nat
  mode : Nat
  lo : Nat
  hi : Nat
  ks : List Int
  q : Nat
abbrev mpCells (S : Mst) (A : Option Addr) (n c : Nat) : Array Value := #[.int .i64 S.tb, .int .i64 S.fs, .int .i64 S.N, .int .i64 S.M, .int .i64 S.mode, .int .i64 S.lo, .int .i64 S.hi, .slice A n c, .int .i64 S.q]
/-- The row at A lies in no block of F, of which g is one; F's blocks are there. -/
def NoF (F : Nat → Prop) (g : Nat) (w : World) (A : Option Addr) : Prop := F g ∧ (∀ b, F b → b < w.heap.size) ∧ ∀ b off, A = some ⟨b, off, none⟩ → ¬ F b ∧ b < w.heap.size
theorem NoF.size {F : Nat → Prop} {g : Nat} {w w' : World} {A : Option Addr} (h : NoF F g w A) (hs : w.heap.size ≤ w'.heap.size) : NoF F g w' A := ⟨h.1, fun b hb => Nat.lt_of_lt_of_le (h.2.1 b hb) hs, fun b off e => ⟨(h.2.2 b off e).1, Nat.lt_of_lt_of_le (h.2.2 b off e).2 hs⟩⟩
theorem NoF.ne {F : Nat → Prop} {g : Nat} {w : World} {A : Option Addr} (h : NoF F g w A) : ∀ b off, A = some ⟨b, off, none⟩ → b ≠ g := fun b off e e2 => (h.2.2 b off e).1 (e2 ▸ h.1)
theorem NoF.new {F : Nat → Prop} {g : Nat} {w w' : World} {A A' : Option Addr} (h : NoF F g w A) (hs : w.heap.size ≤ w'.heap.size) (hn : ∀ b off, A' = some ⟨b, off, none⟩ → w.heap.size ≤ b ∧ b < w'.heap.size) : NoF F g w' A' :=
  ⟨h.1, fun b hb => Nat.lt_of_lt_of_le (h.2.1 b hb) hs, fun b off e => ⟨fun hf => by have := hn b off e; have := h.2.1 b hf; omega, (hn b off e).2⟩⟩
/-- The map in block g is in state S, and its row lies in no block of F. -/
def MapAt (F : Nat → Prop) (w : World) (g : Nat) (S : Mst) : Prop := ∃ A n c, Box w g (mpCells S A n c) ∧ Rd w w.heap.size 2 A n (rnCells (ofL S.ks)) ∧ NoF F g w A
abbrev mptr (g : Nat) : Value := .pointer (some ⟨g, 0, none⟩)
theorem MapAt.below {w w' : World} {g : Nat} {S : Mst} (h : MapAt F w g S) (hb : Below w.heap.size w w') : MapAt F w' g S := by
  obtain ⟨A, n, c, h1, h2, h3⟩ := h
  exact ⟨A, n, c, h1.below hb, (h2.below hb (Nat.le_refl _)).more hb.size, h3.size hb.size⟩
theorem MapAt.drew {w : World} {g : Nat} {S : Mst} (h : MapAt F w g S) : MapAt F w.drew g S := h
def sizeN (S : Mst) : Nat := if S.mode = 1 then min S.M (S.N - S.ks.length) else if S.mode = 2 then (S.lo + S.hi) / 2 else 1
def Mok (S : Mst) : Prop := S.ks.length ≤ S.N ∧ S.N ≤ 512 ∧ S.M ≤ 2000 ∧ S.lo ≤ 2000 ∧ S.hi ≤ 2000 ∧ S.q ≤ 1000000

theorem ended_any (S : Mst) (g : Nat) (w : World) (hS : MapAt F w g S) (hk : Mok S) (r : Bool) (hr : decide (S.ks.length = S.N) = r) :
    Calls Try.prog 27 #[mptr g] w fun e w' => e = .returned (.bool r) ∧ Below w.heap.size w w' := by
  obtain ⟨A, n, c, hB, hR, hne⟩ := hS
  obtain ⟨tb, fs, N, M, mode, lo, hi, ks, q⟩ := S
  dsimp only at hr hR hB
  obtain ⟨k1, k2, k3, k4, k5, k6⟩ := hk
  dsimp only at k1 k2 k3 k4 k5 k6
  have hrl := hR.rlen
  have hln := ofL_length ks
  obtain ⟨l, hl⟩ : ∃ l, ks.length = l := ⟨_, rfl⟩
  have HL := Lib.hid (fun (W : World) (h : Below w.heap.size w W) => len_any (ofL ks) A n c _ W (hR.below h (Nat.le_refl _)) (by omega) l (by rw [ofL_tot, hl]) (by omega))
  rw [hl] at hr k1 hln
  have hd : ((l : Int) == (N : Int)) = r := by
    rw [← hr, Bool.eq_iff_iff]; simp; omega
  have HB := Lib.hid hB
  clear hR hne hrl hr hB hl hln
  go_enter Try.func27, Try.ntmps27
  go_wp2_with fail
  have hS : (∀ i, w.drew.cell? ⟨g, i, none⟩ = (#[.int .i64 tb, .int .i64 fs, .int .i64 N, .int .i64 M, .int .i64 mode, .int .i64 lo, .int .i64 hi, .slice A n c, .int .i64 q] : Array Value)[i]?) ∧ True ∧ True := ⟨HB.out.1, trivial, trivial⟩
  refine rgs_start (fun w' => (∀ i, w'.cell? ⟨g, i, none⟩ = (#[.int .i64 tb, .int .i64 fs, .int .i64 N, .int .i64 M, .int .i64 mode, .int .i64 lo, .int .i64 hi, .slice A n c, .int .i64 q] : Array Value)[i]?) ∧ True ∧ True) (by kernel_rfl) ?_
  refine rgs_t (v := ?_) (some 3) 0 (by kernel_rfl) rfl rfl (by assumption) (.inl ⟨by rfl, fun w' hw => ?_⟩) ?_
  rotate_left
  · obtain ⟨q1, q2, q3⟩ := hw; go_simp <;> with_reducible rfl
  try simp only [Act.put, List.setIfInBounds_toArray, List.set_cons_zero, List.set_cons_succ]
  refine rgs_t (v := ?_) (some 4) 1 (by kernel_rfl) rfl rfl (by assumption) (.inl ⟨by rfl, fun w' hw => ?_⟩) ?_
  rotate_left
  · obtain ⟨q1, q2, q3⟩ := hw; go_simp <;> with_reducible rfl
  try simp only [Act.put, List.setIfInBounds_toArray, List.set_cons_zero, List.set_cons_succ]
  refine rgs_t (v := ?_) (some 5) 2 (by kernel_rfl) rfl rfl (by assumption) (.inl ⟨by rfl, fun w' hw => ?_⟩) ?_
  rotate_left
  · obtain ⟨q1, q2, q3⟩ := hw; go_simp <;> with_reducible rfl
  try simp only [Act.put, List.setIfInBounds_toArray, List.set_cons_zero, List.set_cons_succ]
  refine rgs_t (v := ?_) (some 6) 3 (by kernel_rfl) rfl rfl (by assumption) (.inl ⟨by rfl, fun w' hw => ?_⟩) ?_
  rotate_left
  · obtain ⟨q1, q2, q3⟩ := hw; go_simp <;> with_reducible rfl
  try simp only [Act.put, List.setIfInBounds_toArray, List.set_cons_zero, List.set_cons_succ]
  refine rgs_t (v := ?_) (some 8) 5 (by kernel_rfl) rfl rfl (by assumption) (.inl ⟨by rfl, fun w' hw => ?_⟩) ?_
  rotate_left
  · obtain ⟨q1, q2, q3⟩ := hw; go_simp <;> with_reducible rfl
  try simp only [Act.put, List.setIfInBounds_toArray, List.set_cons_zero, List.set_cons_succ]
  refine rgs_t (v := ?_) (some 9) 6 (by kernel_rfl) rfl rfl (by assumption) (.inl ⟨by rfl, fun w' hw => ?_⟩) ?_
  rotate_left
  · obtain ⟨q1, q2, q3⟩ := hw; go_simp <;> with_reducible rfl
  try simp only [Act.put, List.setIfInBounds_toArray, List.set_cons_zero, List.set_cons_succ]
  refine rgs_t (v := ?_) (some 10) 7 (by kernel_rfl) rfl rfl (by assumption) (.inl ⟨by rfl, fun w' hw => ?_⟩) ?_
  rotate_left
  · obtain ⟨q1, q2, q3⟩ := hw; go_simp <;> with_reducible rfl
  try simp only [Act.put, List.setIfInBounds_toArray, List.set_cons_zero, List.set_cons_succ]
  refine rgs_t (v := ?_) (some 11) 8 (by kernel_rfl) rfl rfl (by assumption) (.inl ⟨by rfl, fun w' hw => ?_⟩) ?_
  rotate_left
  · obtain ⟨q1, q2, q3⟩ := hw; go_simp <;> with_reducible rfl
  try simp only [Act.put, List.setIfInBounds_toArray, List.set_cons_zero, List.set_cons_succ]
  refine rgs_c 4 (by kernel_rfl) rfl (by rfl) (fun K hK => ?_)
  go_simp
  refine (HL.out _ (below_drew (Below.refl _ _))).mono ?_
  rintro e w1 ⟨rfl, hb1⟩
  have hb2 : Below w.heap.size w w1 := (below_drew (Below.refl _ _)).trans hb1
  have hS1 : (∀ i, w1.cell? ⟨g, i, none⟩ = (#[.int .i64 tb, .int .i64 fs, .int .i64 N, .int .i64 M, .int .i64 mode, .int .i64 lo, .int .i64 hi, .slice A n c, .int .i64 q] : Array Value)[i]?) ∧ True ∧ True := ⟨(HB.out.below hb2).1, trivial, trivial⟩
  refine hK _ _ hS1 ?_
  clear hK K
  try simp only [Act.put, List.setIfInBounds_toArray, List.set_cons_zero, List.set_cons_succ]
  refine rgs_t (v := ?_) (some 12) 9 (by kernel_rfl) rfl rfl (by assumption) (.inl ⟨by rfl, fun w' hw => ?_⟩) ?_
  rotate_left
  · obtain ⟨q1, q2, q3⟩ := hw; go_simp <;> with_reducible rfl
  try simp only [Act.put, List.setIfInBounds_toArray, List.set_cons_zero, List.set_cons_succ]
  refine rgs_t (v := ?_) (some 2) 10 (by kernel_rfl) rfl rfl (by assumption) (.inl ⟨by rfl, fun w' hw => ?_⟩) ?_
  rotate_left
  · obtain ⟨q1, q2, q3⟩ := hw; go_simp <;> with_reducible rfl
  try simp only [Act.put, List.setIfInBounds_toArray, List.set_cons_zero, List.set_cons_succ]
  refine rgs_d (by kernel_rfl) ?_
  go_wp2
  go_ret
  exact ⟨rfl, hb2⟩


set_option maxHeartbeats 1000000 in
theorem size_any (S : Mst) (g : Nat) (w : World) (hS : MapAt F w g S) (hk : Mok S) (z : Nat) (hz : sizeN S = z) :
    Calls Try.prog 29 #[mptr g] w fun e w' => e = .returned (.int .i64 z) ∧ Below w.heap.size w w' := by
  obtain ⟨A, n, c, hB, hR, hne⟩ := hS
  obtain ⟨tb, fs, N, M, mode, lo, hi, ks, q⟩ := S
  dsimp only at hR hB
  obtain ⟨k1, k2, k3, k4, k5, k6⟩ := hk
  dsimp only at k1 k2 k3 k4 k5 k6
  simp only [sizeN] at hz
  have hrl := hR.rlen
  have hln := ofL_length ks
  obtain ⟨l, hl⟩ : ∃ l, ks.length = l := ⟨_, rfl⟩
  have HL := Lib.hid (fun (W : World) (h : Below w.heap.size w W) => len_any (ofL ks) A n c _ W (hR.below h (Nat.le_refl _)) (by omega) l (by rw [ofL_tot, hl]) (by omega))
  rw [hl] at hz k1 hln
  have HB := Lib.hid hB
  obtain ⟨qB, zB, lB⟩ := hB
  have HZ := Lib.hid hz
  clear hR hne hrl hl hln hz
  by_cases h1 : mode = 1
  · have hd1 : ((mode : Int) == 1) = true := by simp; omega
    go_enter Try.func29, Try.ntmps29
    go_wp2_with fail
    have hS : (∀ i, w.drew.cell? ⟨g, i, none⟩ = (#[.int .i64 tb, .int .i64 fs, .int .i64 N, .int .i64 M, .int .i64 mode, .int .i64 lo, .int .i64 hi, .slice A n c, .int .i64 q] : Array Value)[i]?) ∧ True ∧ True := ⟨qB, trivial, trivial⟩
    refine rgs_start (fun w' => (∀ i, w'.cell? ⟨g, i, none⟩ = (#[.int .i64 tb, .int .i64 fs, .int .i64 N, .int .i64 M, .int .i64 mode, .int .i64 lo, .int .i64 hi, .slice A n c, .int .i64 q] : Array Value)[i]?) ∧ True ∧ True) (by kernel_rfl) ?_
    refine rgs_t (v := ?_) (some 9) 0 (by kernel_rfl) rfl rfl (by assumption) (.inl ⟨by rfl, fun w' hw => ?_⟩) ?_
    rotate_left
    · obtain ⟨q1, q2, q3⟩ := hw; go_simp <;> with_reducible rfl
    try simp only [Act.put, List.setIfInBounds_toArray, List.set_cons_zero, List.set_cons_succ]
    refine rgs_t (v := ?_) (some 10) 1 (by kernel_rfl) rfl rfl (by assumption) (.inl ⟨by rfl, fun w' hw => ?_⟩) ?_
    rotate_left
    · obtain ⟨q1, q2, q3⟩ := hw; go_simp <;> with_reducible rfl
    try simp only [Act.put, List.setIfInBounds_toArray, List.set_cons_zero, List.set_cons_succ]
    refine rgs_t (v := ?_) (some 11) 2 (by kernel_rfl) rfl rfl (by assumption) (.inl ⟨by rfl, fun w' hw => ?_⟩) ?_
    rotate_left
    · obtain ⟨q1, q2, q3⟩ := hw; go_simp <;> with_reducible rfl
    try simp only [Act.put, List.setIfInBounds_toArray, List.set_cons_zero, List.set_cons_succ]
    refine rgs_t (v := ?_) (some 12) 3 (by kernel_rfl) rfl rfl (by assumption) (.inl ⟨by rfl, fun w' hw => ?_⟩) ?_
    rotate_left
    · obtain ⟨q1, q2, q3⟩ := hw; go_simp <;> with_reducible rfl
    try simp only [Act.put, List.setIfInBounds_toArray, List.set_cons_zero, List.set_cons_succ]
    refine rgs_t (v := ?_) (some 13) 4 (by kernel_rfl) rfl rfl (by assumption) (.inl ⟨by rfl, fun w' hw => ?_⟩) ?_
    rotate_left
    · obtain ⟨q1, q2, q3⟩ := hw; go_simp <;> with_reducible rfl
    try simp only [Act.put, List.setIfInBounds_toArray, List.set_cons_zero, List.set_cons_succ]
    refine rgs_t (v := ?_) (some 14) 5 (by kernel_rfl) rfl rfl (by assumption) (.inl ⟨by rfl, fun w' hw => ?_⟩) ?_
    rotate_left
    · obtain ⟨q1, q2, q3⟩ := hw; go_simp <;> with_reducible rfl
    try simp only [Act.put, List.setIfInBounds_toArray, List.set_cons_zero, List.set_cons_succ]
    refine rgs_t (v := ?_) (some 15) 6 (by kernel_rfl) rfl rfl (by assumption) (.inl ⟨by rfl, fun w' hw => ?_⟩) ?_
    rotate_left
    · obtain ⟨q1, q2, q3⟩ := hw; go_simp <;> with_reducible rfl
    try simp only [Act.put, List.setIfInBounds_toArray, List.set_cons_zero, List.set_cons_succ]
    refine rgs_t (v := ?_) (some 16) 7 (by kernel_rfl) rfl rfl (by assumption) (.inl ⟨by rfl, fun w' hw => ?_⟩) ?_
    rotate_left
    · obtain ⟨q1, q2, q3⟩ := hw; go_simp <;> with_reducible rfl
    try simp only [Act.put, List.setIfInBounds_toArray, List.set_cons_zero, List.set_cons_succ]
    refine rgs_t (v := ?_) (some 17) 8 (by kernel_rfl) rfl rfl (by assumption) (.inl ⟨by rfl, fun w' hw => ?_⟩) ?_
    rotate_left
    · obtain ⟨q1, q2, q3⟩ := hw; go_simp <;> with_reducible rfl
    try simp only [Act.put, List.setIfInBounds_toArray, List.set_cons_zero, List.set_cons_succ]
    refine rgs_t (v := ?_) (some 18) 9 (by kernel_rfl) rfl rfl (by assumption) (.inl ⟨by rfl, fun w' hw => ?_⟩) ?_
    rotate_left
    · obtain ⟨q1, q2, q3⟩ := hw; go_simp <;> with_reducible rfl
    try simp only [Act.put, List.setIfInBounds_toArray, List.set_cons_zero, List.set_cons_succ]
    refine rgs_t (v := ?_) (some 19) 10 (by kernel_rfl) rfl rfl (by assumption) (.inl ⟨by rfl, fun w' hw => ?_⟩) ?_
    rotate_left
    · obtain ⟨q1, q2, q3⟩ := hw; go_simp <;> with_reducible rfl
    try simp only [Act.put, List.setIfInBounds_toArray, List.set_cons_zero, List.set_cons_succ]
    refine rgs_t (v := ?_) (some 20) 11 (by kernel_rfl) rfl rfl (by assumption) (.inl ⟨by rfl, fun w' hw => ?_⟩) ?_
    rotate_left
    · obtain ⟨q1, q2, q3⟩ := hw; go_simp <;> with_reducible rfl
    try simp only [Act.put, List.setIfInBounds_toArray, List.set_cons_zero, List.set_cons_succ]
    refine rgs_c 12 (by kernel_rfl) rfl (by rfl) (fun K hK => ?_)
    go_simp
    refine (HL.out _ (below_drew (Below.refl _ _))).mono ?_
    rintro e w1 ⟨rfl, hb1⟩
    have hb2 : Below w.heap.size w w1 := (below_drew (Below.refl _ _)).trans hb1
    have hS1 : (∀ i, w1.cell? ⟨g, i, none⟩ = (#[.int .i64 tb, .int .i64 fs, .int .i64 N, .int .i64 M, .int .i64 mode, .int .i64 lo, .int .i64 hi, .slice A n c, .int .i64 q] : Array Value)[i]?) ∧ True ∧ True := ⟨(HB.out.below hb2).1, trivial, trivial⟩
    refine hK _ _ hS1 ?_
    clear hK K
    try simp only [Act.put, List.setIfInBounds_toArray, List.set_cons_zero, List.set_cons_succ]
    refine rgs_t (v := ?_) (some 22) 13 (by kernel_rfl) rfl rfl (by assumption) (.inl ⟨by rfl, fun w' hw => ?_⟩) ?_
    rotate_left
    · obtain ⟨q1, q2, q3⟩ := hw; go_simp <;> with_reducible rfl
    try simp only [Act.put, List.setIfInBounds_toArray, List.set_cons_zero, List.set_cons_succ]
    refine rgs_t (v := ?_) (some 23) 14 (by kernel_rfl) rfl rfl (by assumption) (.inl ⟨by rfl, fun w' hw => ?_⟩) ?_
    rotate_left
    · obtain ⟨q1, q2, q3⟩ := hw; go_simp <;> with_reducible rfl
    try simp only [Act.put, List.setIfInBounds_toArray, List.set_cons_zero, List.set_cons_succ]
    refine rgs_t (v := ?_) (some 2) 15 (by kernel_rfl) rfl rfl (by assumption) (.inl ⟨by rfl, fun w' hw => ?_⟩) ?_
    rotate_left
    · obtain ⟨q1, q2, q3⟩ := hw; go_simp <;> with_reducible rfl
    try simp only [Act.put, List.setIfInBounds_toArray, List.set_cons_zero, List.set_cons_succ]
    refine rgs_d (by kernel_rfl) ?_
    have e1 : IntKind.i64.wrap ((N : Int) - (l : Int)) = ((N - l : Nat) : Int) := by rw [IntWalk.i64_in _ ⟨by omega, by omega⟩]; omega
    have hz := HZ.out
    rw [if_pos h1] at hz
    go_wp2
    all_goals
      go_ret
      refine ⟨?_, hb2⟩
      refine congrArg (fun v => Ending.returned (.int .i64 v)) ?_
      try rw [e1]
      first | omega | (split <;> omega)
  · have hd1 : ((mode : Int) == 1) = false := by simp; omega
    by_cases h2 : mode = 2
    · have hd2 : ((mode : Int) == 2) = true := by simp; omega
      have hz := HZ.out
      rw [if_neg h1, if_pos h2] at hz
      go_enter Try.func29, Try.ntmps29
      go_wp2_with fail
      have hS : (∀ i, w.drew.cell? ⟨g, i, none⟩ = (#[.int .i64 tb, .int .i64 fs, .int .i64 N, .int .i64 M, .int .i64 mode, .int .i64 lo, .int .i64 hi, .slice A n c, .int .i64 q] : Array Value)[i]?) ∧ True ∧ True := ⟨qB, trivial, trivial⟩
      refine rgs_start (fun w' => (∀ i, w'.cell? ⟨g, i, none⟩ = (#[.int .i64 tb, .int .i64 fs, .int .i64 N, .int .i64 M, .int .i64 mode, .int .i64 lo, .int .i64 hi, .slice A n c, .int .i64 q] : Array Value)[i]?) ∧ True ∧ True) (by kernel_rfl) ?_
      refine rgs_t (v := ?_) (some 26) 0 (by kernel_rfl) rfl rfl (by assumption) (.inl ⟨by rfl, fun w' hw => ?_⟩) ?_
      rotate_left
      · obtain ⟨q1, q2, q3⟩ := hw; go_simp <;> with_reducible rfl
      try simp only [Act.put, List.setIfInBounds_toArray, List.set_cons_zero, List.set_cons_succ]
      refine rgs_t (v := ?_) (some 27) 1 (by kernel_rfl) rfl rfl (by assumption) (.inl ⟨by rfl, fun w' hw => ?_⟩) ?_
      rotate_left
      · obtain ⟨q1, q2, q3⟩ := hw; go_simp <;> with_reducible rfl
      try simp only [Act.put, List.setIfInBounds_toArray, List.set_cons_zero, List.set_cons_succ]
      refine rgs_t (v := ?_) (some 28) 2 (by kernel_rfl) rfl rfl (by assumption) (.inl ⟨by rfl, fun w' hw => ?_⟩) ?_
      rotate_left
      · obtain ⟨q1, q2, q3⟩ := hw; go_simp <;> with_reducible rfl
      try simp only [Act.put, List.setIfInBounds_toArray, List.set_cons_zero, List.set_cons_succ]
      refine rgs_t (v := ?_) (some 29) 3 (by kernel_rfl) rfl rfl (by assumption) (.inl ⟨by rfl, fun w' hw => ?_⟩) ?_
      rotate_left
      · obtain ⟨q1, q2, q3⟩ := hw; go_simp <;> with_reducible rfl
      try simp only [Act.put, List.setIfInBounds_toArray, List.set_cons_zero, List.set_cons_succ]
      refine rgs_t (v := ?_) (some 30) 4 (by kernel_rfl) rfl rfl (by assumption) (.inl ⟨by rfl, fun w' hw => ?_⟩) ?_
      rotate_left
      · obtain ⟨q1, q2, q3⟩ := hw; go_simp <;> with_reducible rfl
      try simp only [Act.put, List.setIfInBounds_toArray, List.set_cons_zero, List.set_cons_succ]
      refine rgs_t (v := ?_) (some 31) 5 (by kernel_rfl) rfl rfl (by assumption) (.inl ⟨by rfl, fun w' hw => ?_⟩) ?_
      rotate_left
      · obtain ⟨q1, q2, q3⟩ := hw; go_simp <;> with_reducible rfl
      try simp only [Act.put, List.setIfInBounds_toArray, List.set_cons_zero, List.set_cons_succ]
      refine rgs_t (v := ?_) (some 32) 6 (by kernel_rfl) rfl rfl (by assumption) (.inl ⟨by rfl, fun w' hw => ?_⟩) ?_
      rotate_left
      · obtain ⟨q1, q2, q3⟩ := hw; go_simp <;> with_reducible rfl
      try simp only [Act.put, List.setIfInBounds_toArray, List.set_cons_zero, List.set_cons_succ]
      refine rgs_t (v := ?_) (some 33) 7 (by kernel_rfl) rfl rfl (by assumption) (.inl ⟨by rfl, fun w' hw => ?_⟩) ?_
      rotate_left
      · obtain ⟨q1, q2, q3⟩ := hw; go_simp <;> with_reducible rfl
      try simp only [Act.put, List.setIfInBounds_toArray, List.set_cons_zero, List.set_cons_succ]
      refine rgs_t (v := ?_) (some 34) 8 (by kernel_rfl) rfl rfl (by assumption) (.inl ⟨by rfl, fun w' hw => ?_⟩) ?_
      rotate_left
      · obtain ⟨q1, q2, q3⟩ := hw; go_simp <;> with_reducible rfl
      try simp only [Act.put, List.setIfInBounds_toArray, List.set_cons_zero, List.set_cons_succ]
      refine rgs_t (v := ?_) (some 35) 9 (by kernel_rfl) rfl rfl (by assumption) (.inl ⟨by rfl, fun w' hw => ?_⟩) ?_
      rotate_left
      · obtain ⟨q1, q2, q3⟩ := hw; go_simp <;> with_reducible rfl
      try simp only [Act.put, List.setIfInBounds_toArray, List.set_cons_zero, List.set_cons_succ]
      refine rgs_t (v := ?_) (some 2) 10 (by kernel_rfl) rfl rfl (by assumption) (.inl ⟨by rfl, fun w' hw => ?_⟩) ?_
      rotate_left
      · obtain ⟨q1, q2, q3⟩ := hw; go_simp <;> with_reducible rfl
      try simp only [Act.put, List.setIfInBounds_toArray, List.set_cons_zero, List.set_cons_succ]
      refine rgs_d (by kernel_rfl) ?_
      go_wp2
      go_ret
      refine ⟨?_, below_drew (Below.refl _ _)⟩
      have e1 : IntKind.i64.wrap ((lo : Int) + (hi : Int)) = ((lo + hi : Nat) : Int) := by rw [IntWalk.i64_in _ ⟨by omega, by omega⟩]; omega
      refine congrArg (fun v => Ending.returned (.int .i64 v)) ?_
      rw [e1, Int.tdiv_eq_ediv_of_nonneg (by omega)]
      rw [IntWalk.i64_in _ ⟨by omega, by omega⟩]
      omega
    · have hd2 : ((mode : Int) == 2) = false := by simp; omega
      have hz := HZ.out
      rw [if_neg h1, if_neg h2] at hz
      subst hz
      go_enter Try.func29, Try.ntmps29
      go_wp2
      go_ret
      exact ⟨rfl, Below.refl _ _⟩
end Go.Proofs.Ytdkkfahnkenplaa

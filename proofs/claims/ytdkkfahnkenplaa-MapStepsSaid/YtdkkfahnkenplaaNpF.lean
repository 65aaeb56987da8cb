/- Layer 25: contracts of halve, Feed. -/
import Derived.Test.YtdkkfahnkenplaaNpN
import Derived.Test.YtdkkfahnkenplaaChg
set_option linter.unusedVariables false
set_option linter.unusedSimpArgs false
namespace Go.Proofs.Ytdkkfahnkenplaa
open Go.RowKit
variable {F : Nat → Prop}

theorem MapAt.set {w : World} {g k : Nat} {S S' : Mst} {v : Value} (h : MapAt F w g S) (hk : k < 9) (hc : ∀ A n c, (mpCells S A n c).setIfInBounds k v = mpCells S' A n c) (hs : S'.ks = S.ks) : MapAt F (w.setCell ⟨g, k, none⟩ v) g S' := by
  obtain ⟨A, n, c, hB, hR, hne⟩ := h
  have hg := one_set (one_refl w g) k v
  exact ⟨A, n, c, hB.set hk (hc A n c), by rw [hs]; exact (hR.off_row hg (Nat.le_refl _) (fun b off hA hh => hne.ne b off hA (by injection hh))).more hg.size, hne.size hg.size⟩
theorem MapAt.cell {w : World} {g : Nat} {S : Mst} (h : MapAt F w g S) : w.cell? ⟨g, 0, none⟩ = some (.int .i64 S.tb) ∧ w.cell? ⟨g, 1, none⟩ = some (.int .i64 S.fs) ∧ w.cell? ⟨g, 2, none⟩ = some (.int .i64 S.N) ∧ w.cell? ⟨g, 3, none⟩ = some (.int .i64 S.M) ∧ w.cell? ⟨g, 4, none⟩ = some (.int .i64 S.mode) ∧ w.cell? ⟨g, 5, none⟩ = some (.int .i64 S.lo) ∧ w.cell? ⟨g, 6, none⟩ = some (.int .i64 S.hi) ∧ w.cell? ⟨g, 8, none⟩ = some (.int .i64 S.q) ∧ (∀ i, w.frozen? ⟨g, i, none⟩ = false) ∧ g < w.heap.size := by
  obtain ⟨A, n, c, ⟨q, z, l⟩, _, _⟩ := h
  exact ⟨q 0, q 1, q 2, q 3, q 4, q 5, q 6, q 8, z, l⟩
theorem MapAt.drewN {w : World} {g : Nat} {S : Mst} (h : MapAt F w g S) (n : Nat) : MapAt F (w.drewN n) g S := h
theorem one_trans {a b c : World} {g : Nat} (h : a.grownBy b (some g)) (k : b.grownBy c (some g)) : a.grownBy c (some g) :=
  ⟨k.os.trans h.os, k.tape.trans h.tape, k.output.trans h.output, Nat.le_trans h.size k.size, fun i hi hn => (k.block i (Nat.lt_of_lt_of_le hi h.size) hn).trans (h.block i hi hn)⟩

/-- Only blocks of F other than g have changed: a new F. -/
theorem MapAt.other {F F' : Nat → Prop} {w w' : World} {g : Nat} {S : Mst} (h : MapAt F w g S) (hs : w.heap.size ≤ w'.heap.size) (hk : ∀ b, b < w.heap.size → (b = g ∨ ¬ F b) → w'.heap[b]? = w.heap[b]?) (hg : F' g) (hF : ∀ b, F' b → (F b ∨ w.heap.size ≤ b) ∧ b < w'.heap.size) : MapAt F' w' g S := by
  obtain ⟨A, n, c, hB, hR, hne⟩ := h
  have hblk := hk g hB.2.2 (.inl rfl)
  refine ⟨A, n, c, ⟨fun i => ?_, fun i => ?_, heap_some hblk hB.2.2⟩, hR.other hs fun b off hn e hb => hk b hb (.inr (hne.2.2 b off e).1), hg, fun b hb => (hF b hb).2, fun b off e => ⟨fun hf => ?_, Nat.lt_of_lt_of_le (hne.2.2 b off e).2 hs⟩⟩
  · rw [World.cell?_of_block (a := ⟨g, i, none⟩) hblk]; exact hB.1 i
  · rw [frozen_of_block (p := ⟨g, i, none⟩) hblk]; exact hB.2.1 i
  · rcases (hF b hf).1 with h | h
    · exact (hne.2.2 b off e).1 h
    · have := (hne.2.2 b off e).2; omega
/-- What holds of a map's state at every query. -/
def MInv (S : Mst) : Prop := Mok S ∧ 1 ≤ S.M ∧ (S.mode = 2 → S.lo + 2 ≤ S.hi ∧ S.ks.length + S.hi ≤ S.N) ∧ S.mode ≤ 2
def halveS (S : Mst) (n : Nat) (yes no : Bool) : Mst :=
  if yes = true then (if S.hi = n + 1 then learnS (learnS { S with lo := n } n 1 0) 1 2 0 else { S with lo := n })
  else if no = true then (if n = S.lo + 1 then learnS (learnS { S with hi := n } S.lo 1 0) 1 2 0 else { S with hi := n })
  else learnS S S.lo 1 0

set_option maxRecDepth 100000 in
set_option maxHeartbeats 2000000 in
theorem halve_any (S : Mst) (g : Nat) (w : World) (hS : MapAt F w g S) (hk : Mok S) (n : Nat) (yes no : Bool) (h1 : S.lo < n) (h2 : n < S.hi) (h3 : S.ks.length + S.hi ≤ S.N) (hyn : ¬ (yes = true ∧ no = true)) :
    Calls Try.prog 31 #[mptr g, .int .i64 n, .bool yes, .bool no] w fun e w' => e = .returned (.tuple #[]) ∧ MapAt F w' g (halveS S n yes no) ∧ w.grownBy w' (some g) := by
  obtain ⟨k1, k2, k3, k4, k5, k6⟩ := hk
  have HS := Lib.hid hS
  obtain ⟨y0, y1, y2, y3, y4, y5, y6, y8, z, l⟩ := hS.cell
  clear hS
  cases yes
  · cases no
    · have HL := Lib.hid (fun W (h : MapAt F W g _) => learn_any S g W h ⟨k1, k2, k3, k4, k5, k6⟩ S.lo 1 0 (by omega))
      go_enter Try.func31, Try.ntmps31
      go_wp2_with fail
      refine (HL.out _ HS.out).mono ?_
      rintro e w1 ⟨rfl, hS1, hg1⟩
      go_wp2_with fail
      refine bodyPost_ret (v := .tuple #[]) (by simp [results, Try.results31, go_sem]) rfl ⟨rfl, hS1, hg1⟩
    · have HS1 := Lib.hid (HS.out.set (k := 6) (v := .int .i64 n) (S' := { S with hi := n }) (by omega) (fun A m c => rfl) rfl)
      have hg1 := one_set (one_refl w g) 6 (.int .i64 n)
      have HL1 := Lib.hid (fun W (h : MapAt F W g _) => learn_any { S with hi := n } g W h ⟨k1, k2, k3, by exact k4, by dsimp only; omega, k6⟩ S.lo 1 0 (by dsimp only; omega))
      have HL2 := Lib.hid (fun W (h : MapAt F W g _) => learn_any (learnS { S with hi := n } S.lo 1 0) g W h ⟨by simp [learnS]; omega, k2, k3, by simpa [learnS] using k4, by simp [learnS]; omega, k6⟩ 1 2 0 (by simp [learnS]; omega))
      go_enter Try.func31, Try.ntmps31
      go_wp2_with fail
      obtain ⟨W1, hW1⟩ : ∃ W1, w.setCell ⟨g, 6, none⟩ (.int .i64 n) = W1 := ⟨_, rfl⟩
      rw [hW1] at HS1 hg1
      try rw [hW1]
      clear y0 y1 y2 y3 y4 y5 y6 y8 z l hW1
      obtain ⟨y0, y1, y2, y3, y4, y5, y6, y8, z, l⟩ := HS1.out.cell
      dsimp only at y4 y5 y6
      by_cases ht : n = S.lo + 1
      · have hd : ((n : Int) == (S.lo : Int) + 1) = true := by simp; omega
        go_quiet (fail)
        go_wp2_with fail
        refine (HL1.out _ (HS1.out.drewN _)).mono ?_
        rintro e w2 ⟨rfl, hS2, hg2⟩
        go_wp2_with fail
        refine (HL2.out _ hS2).mono ?_
        rintro e w3 ⟨rfl, hS3, hg3⟩
        go_wp2_with fail
        go_end0
        have hfin : halveS S n false true = learnS (learnS { S with hi := n } S.lo 1 0) 1 2 0 := by simp [halveS, ht]
        exact ⟨rfl, by rw [hfin]; exact hS3, one_trans (one_trans (one_drewN hg1 _) hg2) hg3⟩
      · have hd : ((n : Int) == (S.lo : Int) + 1) = false := by simp; omega
        go_quiet (fail)
        go_wp2_with fail
        go_end0
        have hfin : halveS S n false true = { S with hi := n } := by simp [halveS, ht]
        exact ⟨rfl, by rw [hfin]; exact HS1.out.drewN _, one_drewN hg1 _⟩
  · obtain rfl : no = false := by simpa using hyn
    have HS1 := Lib.hid (HS.out.set (k := 5) (v := .int .i64 n) (S' := { S with lo := n }) (by omega) (fun A m c => rfl) rfl)
    have hg1 := one_set (one_refl w g) 5 (.int .i64 n)
    have HL1 := Lib.hid (fun W (h : MapAt F W g _) => learn_any { S with lo := n } g W h ⟨k1, k2, k3, by dsimp only; omega, by exact k5, k6⟩ n 1 0 (by dsimp only; omega))
    have HL2 := Lib.hid (fun W (h : MapAt F W g _) => learn_any (learnS { S with lo := n } n 1 0) g W h ⟨by simp [learnS]; omega, k2, k3, by simp [learnS]; omega, by simpa [learnS] using k5, k6⟩ 1 2 0 (by simp [learnS]; omega))
    go_enter Try.func31, Try.ntmps31
    go_wp2_with fail
    obtain ⟨W1, hW1⟩ : ∃ W1, w.setCell ⟨g, 5, none⟩ (.int .i64 n) = W1 := ⟨_, rfl⟩
    rw [hW1] at HS1 hg1
    try rw [hW1]
    clear y0 y1 y2 y3 y4 y5 y6 y8 z l hW1
    obtain ⟨y0, y1, y2, y3, y4, y5, y6, y8, z, l⟩ := HS1.out.cell
    dsimp only at y4 y5 y6
    by_cases ht : S.hi = n + 1
    · have hd : ((S.hi : Int) == (n : Int) + 1) = true := by simp; omega
      go_quiet (fail)
      go_wp2_with fail
      refine (HL1.out _ (HS1.out.drewN _)).mono ?_
      rintro e w2 ⟨rfl, hS2, hg2⟩
      go_wp2_with fail
      refine (HL2.out _ hS2).mono ?_
      rintro e w3 ⟨rfl, hS3, hg3⟩
      go_wp2_with fail
      go_end0
      have hfin : halveS S n true false = learnS (learnS { S with lo := n } n 1 0) 1 2 0 := by simp [halveS, ht]
      exact ⟨rfl, by rw [hfin]; exact hS3, one_trans (one_trans (one_drewN hg1 _) hg2) hg3⟩
    · have hd : ((S.hi : Int) == (n : Int) + 1) = false := by simp; omega
      go_quiet (fail)
      go_wp2_with fail
      go_end0
      have hfin : halveS S n true false = { S with lo := n } := by simp [halveS, ht]
      exact ⟨rfl, by rw [hfin]; exact HS1.out.drewN _, one_drewN hg1 _⟩
end Go.Proofs.Ytdkkfahnkenplaa

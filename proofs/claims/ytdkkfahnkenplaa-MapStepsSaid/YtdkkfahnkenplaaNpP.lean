/- Layer 25: the plain law of MapBudget: every query lowers a potential. -/
import Derived.Test.YtdkkfahnkenplaaNpG
import Derived.Test.YtdkkfahnkenplaaBitsM
set_option linter.unusedVariables false
set_option linter.unusedSimpArgs false
namespace Go.Proofs.Ytdkkfahnkenplaa
open Go.RowKit
variable {F : Nat → Prop}

/-- How many queries can still come, c being 3 + log2 N. -/
def phi (c : Nat) (S : Mst) : Nat :=
  if S.ks.length = S.N then 0
  else if S.mode = 1 then c * (S.N - S.ks.length)
  else if S.mode = 2 then lg (S.hi - S.lo) + c * (S.N - S.ks.length - 1) + 1
  else c * (S.N - S.ks.length - 1) + 1
theorem lg_mono {a b : Nat} (h1 : 1 ≤ a) (h : a ≤ b) (hb : b ≤ 65536) : lg a ≤ lg b := (lg_spec a h1 (by omega)).2 _ (Nat.le_trans h (lg_spec b (by omega) hb).1)
theorem lg_half {a b : Nat} (h1 : 1 ≤ a) (h2 : 2 ≤ b) (hb : b ≤ 65536) (h : 2 * a ≤ b + 1) : lg a + 1 ≤ lg b := by
  have hb1 := (lg_spec b (by omega) hb).1
  have hpos : 1 ≤ lg b := by
    rcases Nat.eq_zero_or_pos (lg b) with h0 | h0
    · rw [h0] at hb1; simp at hb1; omega
    · exact h0
  obtain ⟨k, hk⟩ : ∃ k, lg b = k + 1 := ⟨lg b - 1, by omega⟩
  rw [hk] at hb1
  have h3 : a ≤ 2 ^ k := by
    rw [Nat.pow_succ] at hb1
    have : 1 ≤ 2 ^ k := Nat.one_le_two_pow
    omega
  have := (lg_spec a h1 (by omega)).2 k h3
  omega
theorem lg_one_le {b : Nat} (h2 : 2 ≤ b) (hb : b ≤ 65536) : 1 ≤ lg b := by
  have := lg_half (a := 1) (b := b) (by omega) h2 hb (by omega)
  omega
theorem learn_len (S : Mst) (n : Nat) (k : Int) (m : Nat) : (learnS S n k m).ks.length = S.ks.length + n ∧ (learnS S n k m).N = S.N ∧ (learnS S n k m).mode = m ∧ (learnS S n k m).M = S.M ∧ (learnS S n k m).lo = S.lo ∧ (learnS S n k m).hi = S.hi ∧ (learnS S n k m).q = S.q := by
  simp [learnS]
/-- Behind a progress of n addresses, in the modes single and block. -/
theorem phi_learn (c : Nat) (S : Mst) (n : Nat) (k : Int) (m : Nat) (h : S.ks.length + n ≤ S.N) (hm : m ≠ 2) (hc : 1 ≤ c) : phi c (learnS S n k m) ≤ c * (S.N - S.ks.length - n) ∧ (m = 0 → S.ks.length + n < S.N → phi c (learnS S n k m) ≤ c * (S.N - S.ks.length - n - 1) + 1) := by
  obtain ⟨e1, e2, e3, _⟩ := learn_len S n k m
  unfold phi
  rw [e1, e2, e3]
  by_cases h0 : S.ks.length + n = S.N
  · rw [if_pos h0]; exact ⟨Nat.zero_le _, fun _ h => by omega⟩
  · rw [if_neg h0]
    obtain ⟨r, hr⟩ : ∃ r, S.N - S.ks.length - n = r + 1 := ⟨S.N - S.ks.length - n - 1, by omega⟩
    have e4 : S.N - (S.ks.length + n) = r + 1 := by omega
    rw [e4, hr]
    by_cases h1 : m = 1
    · rw [if_pos h1]; exact ⟨Nat.le_refl _, fun h => by omega⟩
    · rw [if_neg h1, if_neg hm]
      refine ⟨?_, fun _ _ => ?_⟩
      · rw [Nat.mul_succ]; simp; omega
      · exact Nat.le_refl _
theorem halve_phi (c : Nat) (S : Mst) (n : Nat) (yes no : Bool) (hc : 1 ≤ c) (hm : S.mode = 2) (h1 : S.lo < n) (h2 : n < S.hi) (hn : n = (S.lo + S.hi) / 2) (h3 : S.ks.length + S.hi ≤ S.N) (h4 : S.hi ≤ 65536) (hyn : ¬ (yes = true ∧ no = true)) :
    phi c (halveS S n yes no) + 1 ≤ lg (S.hi - S.lo) + c * (S.N - S.ks.length - 1) + 1 ∧ (halveS S n yes no).N = S.N ∧ (halveS S n yes no).M = S.M ∧ (halveS S n yes no).q = S.q ∧ (halveS S n yes no).ks.length ≤ S.N ∧
      (halveS S n yes no).lo ≤ S.hi ∧ (halveS S n yes no).hi ≤ S.hi ∧ (halveS S n yes no).mode ≤ 2 ∧ ((halveS S n yes no).mode = 2 → (halveS S n yes no).lo + 2 ≤ (halveS S n yes no).hi ∧ (halveS S n yes no).ks.length + (halveS S n yes no).hi ≤ S.N) := by
  have hg : 2 ≤ S.hi - S.lo := by omega
  have hlg := lg_one_le hg (by omega)
  have hmul : ∀ a b : Nat, a ≤ b → c * a ≤ c * b := fun a b h => Nat.mul_le_mul_left c h
  unfold halveS
  by_cases hy : yes = true
  · rw [if_pos hy]
    by_cases ht : S.hi = n + 1
    · rw [if_pos ht]
      obtain ⟨e1, e2, e3, e4, e5, e6, e7⟩ := learn_len { S with lo := n } n 1 0
      obtain ⟨f1, f2, f3, f4, f5, f6, f7⟩ := learn_len (learnS { S with lo := n } n 1 0) 1 2 0
      dsimp only at e1 e2 e4 e5 e6 e7
      have hp := (phi_learn c (learnS { S with lo := n } n 1 0) 1 2 0 (by rw [e1, e2]; omega) (by omega) hc).1
      rw [e1, e2] at hp
      have hm2 := hmul (S.N - (S.ks.length + n) - 1) (S.N - S.ks.length - 1) (by omega)
      refine ⟨by omega, by rw [f2, e2], by rw [f4, e4], by rw [f7, e7], by rw [f1, e1]; omega, by rw [f5, e5]; omega, by rw [f6, e6]; omega, by rw [f3]; omega, fun h => by rw [f3] at h; omega⟩
    · rw [if_neg ht]
      have hlh := lg_half (a := S.hi - n) (b := S.hi - S.lo) (by omega) hg (by omega) (by omega)
      refine ⟨?_, rfl, rfl, rfl, by show S.ks.length ≤ S.N; omega, by show n ≤ S.hi; omega, Nat.le_refl _, by show S.mode ≤ 2; omega, fun _ => ⟨by show n + 2 ≤ S.hi; omega, h3⟩⟩
      unfold phi
      dsimp only
      rw [if_neg (by omega), if_neg (by omega), if_pos hm]
      omega
  · rw [if_neg hy]
    by_cases hno : no = true
    · rw [if_pos hno]
      by_cases ht : n = S.lo + 1
      · rw [if_pos ht]
        obtain ⟨e1, e2, e3, e4, e5, e6, e7⟩ := learn_len { S with hi := n } S.lo 1 0
        obtain ⟨f1, f2, f3, f4, f5, f6, f7⟩ := learn_len (learnS { S with hi := n } S.lo 1 0) 1 2 0
        dsimp only at e1 e2 e4 e5 e6 e7
        have hp := (phi_learn c (learnS { S with hi := n } S.lo 1 0) 1 2 0 (by rw [e1, e2]; omega) (by omega) hc).1
        rw [e1, e2] at hp
        have hm2 := hmul (S.N - (S.ks.length + S.lo) - 1) (S.N - S.ks.length - 1) (by omega)
        refine ⟨by omega, by rw [f2, e2], by rw [f4, e4], by rw [f7, e7], by rw [f1, e1]; omega, by rw [f5, e5]; omega, by rw [f6, e6]; omega, by rw [f3]; omega, fun h => by rw [f3] at h; omega⟩
      · rw [if_neg ht]
        have hlh := lg_half (a := n - S.lo) (b := S.hi - S.lo) (by omega) hg (by omega) (by omega)
        refine ⟨?_, rfl, rfl, rfl, by show S.ks.length ≤ S.N; omega, by show S.lo ≤ S.hi; omega, by show n ≤ S.hi; omega, by show S.mode ≤ 2; omega, fun _ => ⟨by show S.lo + 2 ≤ n; omega, by show S.ks.length + n ≤ S.N; omega⟩⟩
        unfold phi
        dsimp only
        rw [if_neg (by omega), if_neg (by omega), if_pos hm]
        omega
    · rw [if_neg hno]
      obtain ⟨e1, e2, e3, e4, e5, e6, e7⟩ := learn_len S S.lo 1 0
      have hp := phi_learn c S S.lo 1 0 (by omega) (by omega) hc
      have hp2 := hp.2 rfl (by omega)
      have hm2 := hmul (S.N - S.ks.length - S.lo - 1) (S.N - S.ks.length - 1) (by omega)
      refine ⟨by omega, e2, e4, e7, by rw [e1]; omega, by rw [e5]; omega, by rw [e6]; omega, by rw [e3]; omega, fun h => by rw [e3] at h; omega⟩
theorem feed_phi (c : Nat) (S : Mst) (yes no : Bool) (hI : MInv S) (hl : S.ks.length < S.N) (hq : S.q < 1000000) (hyn : ¬ (yes = true ∧ no = true)) (hc : lg S.N + 3 ≤ c) :
    MInv (feedS S yes no) ∧ (feedS S yes no).N = S.N ∧ (feedS S yes no).M = S.M ∧ (feedS S yes no).q = S.q + 1 ∧ phi c (feedS S yes no) + 1 ≤ phi c S := by
  obtain ⟨n1, n2, n3, n4⟩ := size_bd hI hl
  obtain ⟨⟨k1, k2, k3, k4, k5, k6⟩, hM, hm2, hm3⟩ := hI
  obtain ⟨n, hn⟩ : ∃ n, sizeN S = n := ⟨_, rfl⟩
  rw [hn] at n1 n2 n3 n4
  obtain ⟨r, hr⟩ : ∃ r, S.N - S.ks.length = r + 1 := ⟨S.N - S.ks.length - 1, by omega⟩
  have hr1 : S.N - S.ks.length - 1 = r := by omega
  have hcr : c * (r + 1) = c * r + c := Nat.mul_succ c r
  have hmul : ∀ a b : Nat, a ≤ b → c * a ≤ c * b := fun a b h => Nat.mul_le_mul_left c h
  unfold feedS
  rw [hn]
  by_cases m2 : S.mode = 2
  · rw [if_pos m2]
    obtain ⟨p1, p2⟩ := n4 m2
    obtain ⟨p3, p4⟩ := hm2 m2
    have hn2 : n = (S.lo + S.hi) / 2 := by rw [← hn, sizeN, if_neg (by omega), if_pos m2]
    obtain ⟨h1, h2, h3, h4, h5, h6, h7, h8, h9⟩ := halve_phi c { S with q := S.q + 1 } n yes no (by omega) m2 p1 p2 hn2 p4 (by show S.hi ≤ 65536; omega) hyn
    dsimp only at h1 h2 h3 h4 h5 h6 h7 h8 h9
    have hp : phi c S = lg (S.hi - S.lo) + c * (S.N - S.ks.length - 1) + 1 := by rw [phi, if_neg (by omega), if_neg (by omega), if_pos m2]
    refine ⟨⟨⟨by rw [h2]; exact h5, by rw [h2]; exact k2, by rw [h3]; exact k3, by omega, by omega, by rw [h4]; omega⟩, by rw [h3]; exact hM, fun h => by rw [h2]; exact h9 h, h8⟩, h2, h3, h4, by rw [hp]; exact h1⟩
  · rw [if_neg m2]
    have hph : phi c S = if S.mode = 1 then c * (r + 1) else c * r + 1 := by
      rw [phi, if_neg (by omega)]
      by_cases h1 : S.mode = 1
      · rw [if_pos h1, if_pos h1, hr]
      · rw [if_neg h1, if_neg h1, if_neg m2, hr1]
    have hphi : c * r + 1 ≤ phi c S := by rw [hph]; split <;> omega
    have hbig : 1 < n → S.mode = 1 := fun h => by
      refine Decidable.byContradiction fun h1 => ?_
      rw [sizeN, if_neg h1, if_neg m2] at hn
      omega
    have hphb : 1 < n → phi c S = c * r + c := fun h => by rw [hph, if_pos (hbig h), hcr]
    have inv : ∀ (a : Nat) (k : Int) (m : Nat), 1 ≤ a → S.ks.length + a ≤ S.N → m ≤ 1 → MInv (learnS { S with q := S.q + 1 } a k m) ∧ (learnS { S with q := S.q + 1 } a k m).N = S.N ∧ (learnS { S with q := S.q + 1 } a k m).M = S.M ∧ (learnS { S with q := S.q + 1 } a k m).q = S.q + 1 ∧ phi c (learnS { S with q := S.q + 1 } a k m) + 1 ≤ phi c S := by
      intro a k m ha hle hm
      obtain ⟨e1, e2, e3, e4, e5, e6, e7⟩ := learn_len { S with q := S.q + 1 } a k m
      dsimp only at e1 e2 e4 e5 e6 e7
      have hp := (phi_learn c { S with q := S.q + 1 } a k m hle (by omega) (by omega)).1
      dsimp only at hp
      have hx := hmul (S.N - S.ks.length - a) r (by omega)
      refine ⟨⟨⟨by rw [e1, e2]; omega, by rw [e2]; exact k2, by rw [e4]; exact k3, by rw [e5]; exact k4, by rw [e6]; exact k5, by rw [e7]; omega⟩, by rw [e4]; exact hM, fun h => by rw [e3] at h; omega, by rw [e3]; omega⟩, e2, e4, e7, by omega⟩
    by_cases hy : yes = true
    · rw [if_pos hy]; exact inv n 1 1 n1 n2 (by omega)
    · rw [if_neg hy]
      by_cases hno : no = true
      · rw [if_pos hno]
        by_cases hn1 : 1 < n
        · rw [if_pos hn1]
          have hlg := lg_mono (a := n) (b := S.N) (by omega) (by omega) (by omega)
          refine ⟨⟨⟨k1, k2, k3, Nat.zero_le _, by show n ≤ 2000; omega, by show S.q + 1 ≤ 1000000; omega⟩, hM, fun _ => ⟨by show 0 + 2 ≤ n; omega, n2⟩, Nat.le_refl _⟩, rfl, rfl, rfl, ?_⟩
          rw [hphb hn1, phi]
          dsimp only
          rw [if_neg (by omega), if_neg (by omega), if_pos rfl, hr1, Nat.sub_zero]
          omega
        · rw [if_neg hn1]; exact inv 1 2 0 (by omega) (by omega) (by omega)
      · rw [if_neg hno]
        by_cases hn1 : 1 < n
        · rw [if_pos hn1]
          refine ⟨⟨⟨k1, k2, k3, k4, k5, by show S.q + 1 ≤ 1000000; omega⟩, hM, fun h => (by cases h), Nat.zero_le _⟩, rfl, rfl, rfl, ?_⟩
          rw [hphb hn1, phi]
          dsimp only
          rw [if_neg (by omega), if_neg (by omega), if_neg (by omega), hr1]
          omega
        · rw [if_neg hn1]; exact inv 1 3 0 (by omega) (by omega) (by omega)
end Go.Proofs.Ytdkkfahnkenplaa

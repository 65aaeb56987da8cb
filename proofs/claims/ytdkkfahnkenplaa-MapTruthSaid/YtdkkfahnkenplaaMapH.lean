/- Layer 25: the plain laws of MapOpen and MapTruth. -/
import Derived.Test.YtdkkfahnkenplaaMapP
import Derived.Test.YtdkkfahnkenplaaMapT
set_option linter.unusedVariables false
set_option linter.unusedSimpArgs false
namespace Go.Proofs.Ytdkkfahnkenplaa
open Go.RowKit

def kindOf (b : Bool) : Int := if b = true then 1 else 2
/-- Every known kind is a doubt or the truth. -/
def Sound (xs : List Bool) (ks : List Int) : Prop := ∀ (i : Nat) (k : Int), ks[i]? = some k → k = 3 ∨ ∃ b, xs[i]? = some b ∧ k = kindOf b
def doubts (ks : List Int) : Nat := ks.count 3
def SInv (xs : List Bool) (S : Mst) : Prop := S.N = xs.length ∧ Sound xs S.ks ∧ (S.mode = 2 → allT xs S.ks.length S.lo = true ∧ allT xs S.ks.length S.hi = false)
theorem allT_get {xs : List Bool} {l n i : Nat} (h : allT xs l n = true) (hl : l + n ≤ xs.length) (hi : i < n) : xs[l + i]? = some true := by
  have hlt : l + i < xs.length := by omega
  cases hx : xs[l + i]
  · have := allT_stop xs l n i hi hlt hx
    rw [h] at this; cases this
  · rw [List.getElem?_eq_getElem hlt, hx]
theorem allT_last {xs : List Bool} {l n : Nat} (h : allT xs l n = true) (h2 : allT xs l (n + 1) = false) (hl : l + n < xs.length) : xs[l + n]? = some false := by
  cases hx : xs[l + n]
  · rw [List.getElem?_eq_getElem hl, hx]
  · have := allT_all xs l (n + 1) (fun i hi => by
      by_cases e : i < n
      · exact allT_get h (by omega) e
      · obtain rfl : i = n := by omega
        rw [List.getElem?_eq_getElem hl, hx])
    rw [h2] at this; cases this
theorem allT_zero (xs : List Bool) (l : Nat) : allT xs l 0 = true := by simp [allT]
theorem sound_app {xs : List Bool} {ks : List Int} {n : Nat} {k : Int} (h : Sound xs ks) (hk : k = 3 ∨ ∀ i, i < n → ∃ b, xs[ks.length + i]? = some b ∧ k = kindOf b) : Sound xs (ks ++ List.replicate n k) := by
  intro i v hv
  by_cases hi : i < ks.length
  · rw [List.getElem?_append_left hi] at hv
    exact h i v hv
  · rw [List.getElem?_append_right (by omega), List.getElem?_replicate] at hv
    split at hv
    · rename_i hlt
      obtain rfl : k = v := by simpa using hv
      rcases hk with hk | hk
      · exact .inl hk
      · obtain ⟨b, h1, h2⟩ := hk (i - ks.length) hlt
        rw [show ks.length + (i - ks.length) = i by omega] at h1
        exact .inr ⟨b, h1, h2⟩
    · cases hv
theorem doubts_app (ks : List Int) (n : Nat) (k : Int) : doubts (ks ++ List.replicate n k) = doubts ks + if k = 3 then n else 0 := by
  simp only [doubts, List.count_append, List.count_replicate]
  by_cases h : k = 3 <;> simp [h]
theorem learn_ks (S : Mst) (n : Nat) (k : Int) (m : Nat) : (learnS S n k m).ks = S.ks ++ List.replicate n k := rfl
theorem sound_step (xs : List Bool) (S : Mst) (yes no : Bool) (hI : MInv S) (hl : S.ks.length < S.N) (hs : SInv xs S) (hyes : yes = true → allT xs S.ks.length (sizeN S) = true) (hno : no = true → allT xs S.ks.length (sizeN S) = false) :
    SInv xs (feedS S yes no) ∧ doubts (feedS S yes no).ks ≤ doubts S.ks + (if sizeN S = 1 ∧ yes = false ∧ no = false then 1 else 0) := by
  obtain ⟨n1, n2, n3, n4⟩ := size_bd hI hl
  obtain ⟨h1, h2, h3⟩ := hs
  obtain ⟨hk, hM, hm2, hm3⟩ := hI
  obtain ⟨n, hn⟩ : ∃ n, sizeN S = n := ⟨_, rfl⟩
  rw [hn] at n1 n2 n3 n4 hyes hno ⊢
  have yesk : ∀ {m : Nat}, allT xs S.ks.length m = true → S.ks.length + m ≤ S.N → (1 : Int) = 3 ∨ ∀ i, i < m → ∃ b, xs[S.ks.length + i]? = some b ∧ (1 : Int) = kindOf b :=
    fun h hb => .inr fun i hi => ⟨true, allT_get h (by omega) hi, rfl⟩
  unfold feedS
  rw [hn]
  by_cases m2 : S.mode = 2
  · rw [if_pos m2]
    obtain ⟨p1, p2⟩ := n4 m2
    obtain ⟨p3, p4⟩ := hm2 m2
    obtain ⟨q1, q2⟩ := h3 m2
    unfold halveS
    dsimp only
    by_cases hy : yes = true
    · rw [if_pos hy]
      have ha := hyes hy
      by_cases ht : S.hi = n + 1
      · rw [if_pos ht]
        refine ⟨⟨h1, ?_, fun h => (by cases h)⟩, ?_⟩
        · rw [learn_ks, learn_ks]
          refine sound_app (sound_app h2 (yesk ha (by omega))) (.inr fun i hi => ⟨false, ?_, rfl⟩)
          obtain rfl : i = 0 := by omega
          rw [List.length_append, List.length_replicate, Nat.add_zero]
          show xs[S.ks.length + n]? = some false
          exact allT_last ha (by rw [← ht]; exact q2) (by omega)
        · rw [learn_ks, learn_ks, doubts_app, doubts_app]
          simp
      · rw [if_neg ht]
        exact ⟨⟨h1, h2, fun _ => ⟨ha, q2⟩⟩, by simp⟩
    · rw [if_neg hy]
      by_cases hn2 : no = true
      · rw [if_pos hn2]
        have ha := hno hn2
        by_cases ht : n = S.lo + 1
        · rw [if_pos ht]
          refine ⟨⟨h1, ?_, fun h => (by cases h)⟩, ?_⟩
          · rw [learn_ks, learn_ks]
            refine sound_app (sound_app h2 (yesk q1 (by omega))) (.inr fun i hi => ⟨false, ?_, rfl⟩)
            obtain rfl : i = 0 := by omega
            rw [List.length_append, List.length_replicate, Nat.add_zero]
            show xs[S.ks.length + S.lo]? = some false
            exact allT_last q1 (by rw [← ht]; exact ha) (by omega)
          · rw [learn_ks, learn_ks, doubts_app, doubts_app]
            simp
        · rw [if_neg ht]
          exact ⟨⟨h1, h2, fun _ => ⟨q1, ha⟩⟩, by simp⟩
      · rw [if_neg hn2]
        refine ⟨⟨h1, ?_, fun h => (by cases h)⟩, ?_⟩
        · rw [learn_ks]; exact sound_app h2 (yesk q1 (by omega))
        · rw [learn_ks, doubts_app]; simp
  · rw [if_neg m2]
    by_cases hy : yes = true
    · rw [if_pos hy]
      refine ⟨⟨h1, ?_, fun h => (by cases h)⟩, ?_⟩
      · rw [learn_ks]; exact sound_app h2 (yesk (hyes hy) n2)
      · rw [learn_ks, doubts_app]; simp
    · rw [if_neg hy]
      by_cases hn2 : no = true
      · rw [if_pos hn2]
        have ha := hno hn2
        by_cases hn1 : 1 < n
        · rw [if_pos hn1]
          exact ⟨⟨h1, h2, fun _ => ⟨allT_zero _ _, ha⟩⟩, by simp⟩
        · rw [if_neg hn1]
          obtain rfl : n = 1 := by omega
          refine ⟨⟨h1, ?_, fun h => (by cases h)⟩, ?_⟩
          · rw [learn_ks]
            refine sound_app h2 (.inr fun i hi => ⟨false, ?_, rfl⟩)
            obtain rfl : i = 0 := by omega
            have := allT_last (allT_zero xs S.ks.length) ha (by omega)
            simpa using this
          · rw [learn_ks, doubts_app]; simp
      · rw [if_neg hn2]
        by_cases hn1 : 1 < n
        · rw [if_pos hn1]
          exact ⟨⟨h1, h2, fun h => (by cases h)⟩, by simp⟩
        · rw [if_neg hn1]
          obtain rfl : n = 1 := by omega
          refine ⟨⟨h1, ?_, fun h => (by cases h)⟩, ?_⟩
          · rw [learn_ks]; exact sound_app h2 (.inl rfl)
          · rw [learn_ks, doubts_app]; simp [hy, hn2]

/-! ### how many queries a true map takes -/
def cT (xs : List Bool) : Nat → Nat
  | 0 => 0
  | i + 1 => cT xs i + if xs[i]? = some true then 1 else 0
def stN (xs : List Bool) : Nat → Nat
  | 0 => 0
  | i + 1 => stN xs i + if xs[i]? = some true ∧ (i = 0 ∨ xs[i - 1]? = some false) then 1 else 0
theorem cT_le (xs : List Bool) (i : Nat) : cT xs i ≤ i := by
  induction i with
  | zero => exact Nat.le_refl _
  | succ i ih => simp only [cT]; split <;> omega
theorem stN_le (xs : List Bool) (i : Nat) : stN xs i ≤ cT xs i := by
  induction i with
  | zero => exact Nat.le_refl _
  | succ i ih =>
    simp only [cT, stN]
    by_cases h : xs[i]? = some true
    · rw [if_pos h]; split <;> omega
    · rw [if_neg h, if_neg (fun x => h x.1)]; omega
theorem cT_run (xs : List Bool) (l n : Nat) (h : ∀ i, i < n → xs[l + i]? = some true) : cT xs (l + n) = cT xs l + n := by
  induction n with
  | zero => rfl
  | succ n ih =>
    have := ih (fun i hi => h i (by omega))
    rw [← Nat.add_assoc, cT, this, if_pos (h n (by omega))]; omega
/-- Behind a readable address no new span begins. -/
theorem stN_run (xs : List Bool) (l n : Nat) (h : ∀ i, i < n → xs[l + i]? = some true) (h0 : 0 < l) (hp : xs[l - 1]? = some true) : stN xs (l + n) = stN xs l := by
  induction n with
  | zero => simp
  | succ n ih =>
    have := ih (fun i hi => h i (by omega))
    rw [← Nat.add_assoc, stN, this, if_neg, Nat.add_zero]
    rintro ⟨_, h1 | h1⟩
    · omega
    · cases n with
      | zero => rw [Nat.add_zero, hp] at h1; cases h1
      | succ n =>
        have h2 := h n (by omega)
        rw [show l + (n + 1) - 1 = l + n by omega, h2] at h1; cases h1
theorem cT_no (xs : List Bool) (l : Nat) (h : xs[l]? = some false) : cT xs (l + 1) = cT xs l ∧ stN xs (l + 1) = stN xs l := by
  simp [cT, stN, h]
/-- The count of queries so far, L being log2 M. -/
def QInv (L : Nat) (xs : List Bool) (S : Mst) : Prop := ∃ B U, B * S.M ≤ cT xs S.ks.length ∧ U + cT xs S.ks.length = S.ks.length ∧
  S.q ≤ U + (2 + L) * stN xs S.ks.length + B ∧
  (S.ks.length < S.N → S.mode = 0 → S.ks.length = 0 ∨ xs[S.ks.length - 1]? = some false) ∧
  (S.ks.length < S.N → S.mode = 1 → 0 < S.ks.length ∧ xs[S.ks.length - 1]? = some true ∧ S.q + 1 + L ≤ U + (2 + L) * stN xs S.ks.length + B) ∧
  (S.mode = 2 → 0 < S.ks.length ∧ xs[S.ks.length - 1]? = some true ∧ S.hi ≤ S.M ∧ S.q + lg (S.hi - S.lo) ≤ U + (2 + L) * stN xs S.ks.length + B)
theorem q_step (L : Nat) (xs : List Bool) (S : Mst) (hI : MInv S) (hl : S.ks.length < S.N) (hs : SInv xs S) (hL : lg S.M = L) (hq : QInv L xs S) (hmm : S.mode = 0 ∨ S.mode = 1 ∨ S.mode = 2) :
    QInv L xs (feedS S (allT xs S.ks.length (sizeN S)) (!allT xs S.ks.length (sizeN S))) := by
  obtain ⟨n1, n2, n3, n4⟩ := size_bd hI hl
  obtain ⟨h1, h2, h3⟩ := hs
  obtain ⟨⟨k1, k2, k3, k4, k5, k6⟩, hM, hm2, hm3⟩ := hI
  obtain ⟨B, U, b1, b2, b3, b4, b5, b6⟩ := hq
  obtain ⟨n, hn⟩ : ∃ n, sizeN S = n := ⟨_, rfl⟩
  obtain ⟨yes, hy⟩ : ∃ y, allT xs S.ks.length n = y := ⟨_, rfl⟩
  have hnd := hn
  rw [hn] at n1 n2 n3 n4 ⊢
  rw [hy]
  have hlen : xs.length = S.N := h1.symm
  -- a finished search: m readable, then one that is not
  have fin : ∀ (T : Mst) (m : Nat), T.ks = S.ks → T.N = S.N → T.M = S.M → T.q = S.q + 1 → allT xs S.ks.length m = true → xs[S.ks.length + m]? = some false → S.ks.length + m < S.N → 0 < S.ks.length → xs[S.ks.length - 1]? = some true → S.q ≤ U + (2 + L) * stN xs S.ks.length + B → QInv L xs (learnS (learnS T m 1 0) 1 2 0) := by
    intro T m e1 e2 e3 e4 ha hf hm h0 hp hb
    have hrun := fun i hi => allT_get (i := i) ha (by omega) hi
    have c1 := cT_run xs S.ks.length m hrun
    have c2 := stN_run xs S.ks.length m hrun h0 hp
    obtain ⟨c3, c4⟩ := cT_no xs (S.ks.length + m) hf
    have hlen2 : (learnS (learnS T m 1 0) 1 2 0).ks.length = S.ks.length + m + 1 := by rw [learn_ks, learn_ks, e1]; simp [Nat.add_assoc]
    refine ⟨B, U + 1, ?_, ?_, ?_, fun _ _ => .inr ?_, fun _ h => (by cases h), fun h => (by cases h)⟩
    · rw [hlen2, c3, c1]; show B * T.M ≤ _; rw [e3]; omega
    · rw [hlen2, c3, c1]; omega
    · rw [hlen2, c4, c2]; show T.q ≤ _; rw [e4]; omega
    · rw [hlen2, Nat.add_sub_cancel]; exact hf
  unfold feedS
  rw [hn]
  by_cases m2 : S.mode = 2
  · rw [if_pos m2]
    obtain ⟨p1, p2⟩ := n4 m2
    obtain ⟨p3, p4⟩ := hm2 m2
    obtain ⟨q1, q2⟩ := h3 m2
    obtain ⟨d1, d2, d3, d4⟩ := b6 m2
    have hn2 : n = (S.lo + S.hi) / 2 := by rw [← hnd, sizeN, if_neg (by omega), if_pos m2]
    unfold halveS
    dsimp only
    cases yes
    · rw [if_neg (by simp), if_pos (by rfl)]
      by_cases ht : n = S.lo + 1
      · rw [if_pos ht]
        exact fin _ S.lo rfl rfl rfl rfl q1 (allT_last q1 (by rw [← ht]; exact hy) (by omega)) (by omega) d1 d2 (by omega)
      · rw [if_neg ht]
        have hlh := lg_half (a := n - S.lo) (b := S.hi - S.lo) (by omega) (by omega) (by omega) (by omega)
        refine ⟨B, U, b1, b2, ?_, fun _ h => ?_, fun _ h => ?_, fun _ => ⟨d1, d2, by show n ≤ S.M; omega, ?_⟩⟩
        · show S.q + 1 ≤ U + (2 + L) * stN xs S.ks.length + B; have := lg_one_le (b := S.hi - S.lo) (by omega) (by omega); omega
        · have h : S.mode = 0 := h; omega
        · have h : S.mode = 1 := h; omega
        · show S.q + 1 + lg (n - S.lo) ≤ U + (2 + L) * stN xs S.ks.length + B; omega
    · rw [if_pos rfl]
      by_cases ht : S.hi = n + 1
      · rw [if_pos ht]
        exact fin _ n rfl rfl rfl rfl hy (allT_last hy (by rw [← ht]; exact q2) (by omega)) (by omega) d1 d2 (by omega)
      · rw [if_neg ht]
        have hlh := lg_half (a := S.hi - n) (b := S.hi - S.lo) (by omega) (by omega) (by omega) (by omega)
        refine ⟨B, U, b1, b2, ?_, fun _ h => ?_, fun _ h => ?_, fun _ => ⟨d1, d2, d3, ?_⟩⟩
        · show S.q + 1 ≤ U + (2 + L) * stN xs S.ks.length + B; have := lg_one_le (b := S.hi - S.lo) (by omega) (by omega); omega
        · have h : S.mode = 0 := h; omega
        · have h : S.mode = 1 := h; omega
        · show S.q + 1 + lg (S.hi - n) ≤ U + (2 + L) * stN xs S.ks.length + B; omega
  · rw [if_neg m2]
    cases yes
    · rw [if_neg (by simp), if_pos (by rfl)]
      by_cases hn1 : 1 < n
      · rw [if_pos hn1]
        have m1 : S.mode = 1 := by
          refine Decidable.byContradiction fun h => ?_
          rw [sizeN, if_neg h, if_neg m2] at hnd
          omega
        obtain ⟨d1, d2, d3⟩ := b5 hl m1
        have hnM : n ≤ S.M := by rw [← hnd, sizeN, if_pos m1]; omega
        have hlm := lg_mono (a := n) (b := S.M) (by omega) hnM (by omega)
        refine ⟨B, U, b1, b2, ?_, fun _ h => (by cases h), fun _ h => (by cases h), fun _ => ⟨d1, d2, hnM, ?_⟩⟩
        · show S.q + 1 ≤ U + (2 + L) * stN xs S.ks.length + B; omega
        · show S.q + 1 + lg (n - 0) ≤ U + (2 + L) * stN xs S.ks.length + B; rw [Nat.sub_zero]; omega
      · rw [if_neg hn1]
        obtain rfl : n = 1 := by omega
        have hf := allT_last (allT_zero xs S.ks.length) hy (by omega)
        rw [Nat.add_zero] at hf
        obtain ⟨c3, c4⟩ := cT_no xs S.ks.length hf
        have hlen2 : (learnS { S with q := S.q + 1 } 1 2 0).ks.length = S.ks.length + 1 := by rw [learn_ks]; simp
        refine ⟨B, U + 1, ?_, ?_, ?_, fun _ _ => .inr ?_, fun _ h => (by cases h), fun h => (by cases h)⟩
        · rw [hlen2, c3]; exact b1
        · rw [hlen2, c3]; omega
        · rw [hlen2, c4]; show S.q + 1 ≤ _; omega
        · rw [hlen2, Nat.add_sub_cancel]; exact hf
    · rw [if_pos rfl]
      have hrun := fun i hi => allT_get (i := i) hy (by omega) hi
      have c1 := cT_run xs S.ks.length n hrun
      have hlen2 : (learnS { S with q := S.q + 1 } n 1 1).ks.length = S.ks.length + n := by rw [learn_ks]; simp
      have hlast : xs[S.ks.length + n - 1]? = some true := by have := hrun (n - 1) (by omega); rw [show S.ks.length + (n - 1) = S.ks.length + n - 1 by omega] at this; exact this
      rcases hmm with m0 | m1 | h
      · have n1' : n = 1 := by rw [← hnd, sizeN, if_neg (by omega), if_neg m2]
        subst n1'
        have hc0 := hrun 0 (by omega)
        rw [Nat.add_zero] at hc0
        have c2 : stN xs (S.ks.length + 1) = stN xs S.ks.length + 1 := by
          rw [stN, if_pos ⟨hc0, b4 hl m0⟩]
        have hmul : (2 + L) * (stN xs S.ks.length + 1) = (2 + L) * stN xs S.ks.length + (2 + L) := Nat.mul_succ _ _
        refine ⟨B, U, ?_, ?_, ?_, fun _ h => (by cases h), fun _ _ => ⟨?_, ?_, ?_⟩, fun h => (by cases h)⟩
        · rw [hlen2, c1]; show B * S.M ≤ _; omega
        · rw [hlen2, c1]; omega
        · rw [hlen2, c2, hmul]; show S.q + 1 ≤ _; omega
        · rw [hlen2]; omega
        · rw [hlen2]; exact hlast
        · rw [hlen2, c2, hmul]; show S.q + 1 + 1 + L ≤ _; omega
      · obtain ⟨d1, d2, d3⟩ := b5 hl m1
        have c2 := stN_run xs S.ks.length n hrun d1 d2
        have hnm : n = min S.M (S.N - S.ks.length) := by rw [← hnd, sizeN, if_pos m1]
        by_cases hfull : n = S.M
        · have hmul : (B + 1) * S.M = B * S.M + S.M := Nat.succ_mul _ _
          refine ⟨B + 1, U, ?_, ?_, ?_, fun _ h => (by cases h), fun _ _ => ⟨?_, ?_, ?_⟩, fun h => (by cases h)⟩
          · rw [hlen2, c1]; show (B + 1) * S.M ≤ _; rw [hmul]; omega
          · rw [hlen2, c1]; omega
          · rw [hlen2, c2]; show S.q + 1 ≤ _; omega
          · rw [hlen2]; omega
          · rw [hlen2]; exact hlast
          · rw [hlen2, c2]; show S.q + 1 + 1 + L ≤ _; omega
        · have hend : S.ks.length + n = S.N := by omega
          refine ⟨B, U, ?_, ?_, ?_, fun h => ?_, fun h => ?_, fun h => (by cases h)⟩
          · rw [hlen2, c1]; show B * S.M ≤ _; omega
          · rw [hlen2, c1]; omega
          · rw [hlen2, c2]; show S.q + 1 ≤ _; omega
          · rw [hlen2] at h; have h : S.ks.length + n < S.N := h; omega
          · rw [hlen2] at h; have h : S.ks.length + n < S.N := h; omega
      · exact absurd h m2
/-- At the end. -/
theorem q_end (L : Nat) (xs : List Bool) (S : Mst) (hM : 1 ≤ S.M) (hq : QInv L xs S) (hl : S.ks.length = xs.length) :
    S.q ≤ (xs.length - cT xs xs.length) + 2 * (cT xs xs.length / S.M) + stN xs xs.length * (2 + L) := by
  obtain ⟨B, U, b1, b2, b3, _⟩ := hq
  rw [hl] at b1 b2 b3
  have hB : B ≤ cT xs xs.length / S.M := (Nat.le_div_iff_mul_le hM).2 b1
  rw [Nat.mul_comm (2 + L)] at b3
  omega
end Go.Proofs.Ytdkkfahnkenplaa

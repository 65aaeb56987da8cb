/- The layers together, in plain words: a frame sent bit by bit is received as one frame. -/
import Derived.Test.YtoliplochipoeaaTUartW
import Derived.Test.YtoliplochipoeaaTUartM
import Derived.Test.YtoliplochipoeaaTRcvV
set_option linter.unusedVariables false
set_option linter.unusedSimpArgs false
namespace Go.Proofs.Ytoliplochipoeaa
open Go.RowKit

/-! ### the bits -/
section
variable (bs ds : Nat → Nat) (p q c : Int)
def evF (k : Nat) : UEv := ⟨posTo ds k + ds k + 10, bs k, c⟩
theorem lineF_chars (hp : 0 ≤ p ∧ p ≤ 2) (hb : ∀ k, bs k ≤ 255) (hd : ∀ b, b ≤ 255 → decode (encode b p) q = (b, c, true)) (tl : List Bool) (n : Nat) : ∀ k, k ≤ n → chars (lineTo bs ds p n ++ tl) q 0 = (List.range k).map (evF bs ds c) ++ chars (lineTo bs ds p n ++ tl) q (posTo ds k) := by
  intro k
  induction k with
  | zero => intro _; rfl
  | succ k ih =>
    intro hk
    rw [ih (by omega), List.range_succ, List.map_append, List.append_assoc]
    congr 1
    obtain ⟨t, ht⟩ := lineTo_tail bs ds p k n (by omega)
    have hL : lineTo bs ds p n ++ tl = lineTo bs ds p k ++ (List.replicate (ds k) true ++ (encode (bs k) p ++ (t ++ tl))) := by rw [ht]; simp [List.append_assoc]
    have hlen := lineTo_length bs ds p hp k
    have he := enc_length (bs k) p hp
    generalize hLL : lineTo bs ds p n ++ tl = L at hL ⊢
    have h1 : ∀ j, j < ds k → bt L (posTo ds k + j) = true := fun j hj => by rw [hL, bt_app _ _ _ _ hlen]; exact bt_rep _ _ _ hj
    have hA : (lineTo bs ds p k ++ List.replicate (ds k) true).length = posTo ds k + ds k := by rw [List.length_append, hlen, List.length_replicate]
    have hL2 : L = (lineTo bs ds p k ++ List.replicate (ds k) true) ++ (encode (bs k) p ++ (t ++ tl)) := by rw [hL]; simp [List.append_assoc]
    have h2 : bt L (posTo ds k + ds k) = false := by
      have := bt_app (lineTo bs ds p k ++ List.replicate (ds k) true) (encode (bs k) p ++ (t ++ tl)) (posTo ds k + ds k) 0 hA
      rw [Nat.add_zero, ← hL2] at this
      rw [this, encode, if_pos hp]; simp [bt]
    have h3 : (L.drop (posTo ds k + ds k)).take 11 = encode (bs k) p := by
      rw [hL2, ← hA, List.drop_left, ← he, List.take_left]
    have h4 : posTo ds k + ds k + 11 ≤ L.length := by
      rw [hL2, List.length_append, hA, List.length_append, he]; omega
    have h5 : chrAt L q (posTo ds k + ds k) = (bs k, c, true) := by
      rw [chrAt, h3]; exact hd _ (hb k)
    rw [chars_skips L q _ _ h1, chr_eq h5 h4 h2]
    rfl
theorem lineF_all (hp : 0 ≤ p ∧ p ≤ 2) (hq : 0 ≤ q ∧ q ≤ 2) (hb : ∀ k, bs k ≤ 255) (hd : ∀ b, b ≤ 255 → decode (encode b p) q = (b, c, true)) (tl : List Bool) (ht : tl.length < 11) (n : Nat) : streamL (lineTo bs ds p n ++ tl) q = (List.range n).map (evF bs ds c) := by
  rw [streamL, if_pos hq, lineF_chars bs ds p q c hp hb hd tl n n (Nat.le_refl _)]
  have : chars (lineTo bs ds p n ++ tl) q (posTo ds n) = [] := by
    apply chars_short
    rw [List.length_append, lineTo_length bs ds p hp]; omega
  rw [this, List.append_nil]
end

/-! ### the frame -/
/-- Characters with the flags c, each within M ticks of silence behind the one before. -/
def chainC (ch M c : Int) : Int → List Ev → Prop
  | _, [] => True
  | t, e :: l => t ≤ e.at_ ∧ e.at_ - ch - t ≤ M ∧ e.fl = c ∧ chainC ch M c e.at_ l
def stC (c : Int) (xs : List Int) (fi at_ : Int) : Rs := ⟨xs, fi, at_, c, true, at_, 0⟩
def FlC (t15 c : Int) : Prop := (∀ s n, s ≤ t15 → n < 256 → addFl true s t15 n c c = c) ∧ (∀ s n, n < 256 → addFl false s t15 n 0 c = c)
theorem flC (t15 c : Int) (h : c = 0 ∨ c = 1) : FlC t15 c := by
  constructor
  · intro s n hs hn
    unfold addFl
    rw [if_pos hn, if_neg (show ¬ (true = true ∧ t15 < s) by omega)]
    rcases h with rfl | rfl <;> decide
  · intro s n hn
    unfold addFl
    rw [if_pos hn, if_neg (show ¬ (false = true ∧ t15 < s) by simp)]
    rcases h with rfl | rfl <;> decide
theorem step_c (ch t15 t35 M c at_ fi : Int) (xs : List Int) (e : Ev) (h1 : e.at_ - ch - at_ ≤ M) (hfl : e.fl = c) (h0 : 0 ≤ M) (h15 : M ≤ t15) (h35 : M < t35) (hc : FlC t15 c) (hl : xs.length < 256) :
    endS ch t35 (stC c xs fi at_) e = false ∧ charS ch t15 t35 (stC c xs fi at_) e = stC c (xs ++ [e.val]) fi e.at_ := by
  obtain ⟨ea, ev, ef⟩ := e
  dsimp only at h1 hfl ⊢
  subst hfl
  have hs : silS ch (stC ef xs fi at_) ⟨ea, ev, ef⟩ ≤ M := by
    simp only [silS, stC]
    omega
  obtain ⟨s, hs2⟩ : ∃ s, silS ch (stC ef xs fi at_) ⟨ea, ev, ef⟩ = s := ⟨_, rfl⟩
  rw [hs2] at hs
  have he : endS ch t35 (stC ef xs fi at_) ⟨ea, ev, ef⟩ = false := by
    simp only [endS, hs2, Bool.and_eq_false_iff]
    exact .inr (by simp; omega)
  refine ⟨he, ?_⟩
  rw [charS, he, hs2]
  simp only [Bool.false_eq_true, if_false, addS, stC, if_pos hl, if_true]
  rw [hc.1 s _ (by omega) hl]
theorem run_c (ch t15 t35 M c at_ fi : Int) (xs : List Int) (l : List Ev) (hch : chainC ch M c at_ l) (h0 : 0 ≤ M) (h15 : M ≤ t15) (h35 : M < t35) (hc : FlC t15 c) (hl : xs.length + l.length ≤ 256) :
    runS ch t15 t35 (stC c xs fi at_) l = ([], stC c (xs ++ l.map (·.val)) fi (lastE at_ l)) := by
  induction l generalizing at_ xs with
  | nil => simp [runS, lastE]
  | cons y t ih =>
    simp only [List.length_cons] at hl
    obtain ⟨h1, h2, h3, h4⟩ := hch
    obtain ⟨a, b⟩ := step_c ch t15 t35 M c at_ fi xs y h2 h3 h0 h15 h35 hc (by omega)
    rw [runS, a, b, ih _ _ h4 (by simp; omega)]
    simp [lastE]
theorem frames_c (ch t15 t35 M c : Int) (y : Ev) (l : List Ev) (hy : y.fl = c) (hch : chainC ch M c y.at_ l) (h0 : 0 ≤ M) (h15 : M ≤ t15) (h35 : M < t35) (hc : FlC t15 c) (hl : (y :: l).length ≤ 256) :
    framesS ch t15 t35 (y :: l) = [⟨(y :: l).map (·.val), y.at_, lastE y.at_ l, c⟩] := by
  have h1 : charS ch t15 t35 .zero y = stC c [y.val] y.at_ y.at_ := by
    obtain ⟨ya, yv, yf⟩ := y
    dsimp only at hy
    subst hy
    rw [charS, show endS ch t35 .zero ⟨ya, yv, yf⟩ = false from rfl]
    simp only [Bool.false_eq_true, if_false, addS, Rs.zero, stC]
    rw [hc.2 _ _ (by simp)]
    rfl
  have h2 : runS ch t15 t35 .zero (y :: l) = ([], stC c ((y :: l).map (·.val)) y.at_ (lastE y.at_ l)) := by
    rw [runS, h1, run_c ch t15 t35 M c _ _ _ l hch h0 h15 h35 hc (by simp only [List.length_cons, List.length_nil] at hl ⊢; omega)]
    rfl
  rw [framesS, h2]
  rfl
theorem ord_c (ch M c at_ : Int) (l : List Ev) (h : chainC ch M c at_ l) : ordE at_ l = true := by
  induction l generalizing at_ with
  | nil => rfl
  | cons y t ih => simp only [ordE, Bool.and_eq_true, decide_eq_true_eq]; exact ⟨h.1, ih _ h.2.2.2⟩
theorem in_c (ch M c at_ H : Int) (l : List Ev) (h : chainC ch M c at_ l) (h0 : 0 ≤ at_) (hb : ∀ e ∈ l, e.at_ ≤ H) (hH : H ≤ 1152921504606846976) : l.all inR = true := by
  induction l generalizing at_ with
  | nil => rfl
  | cons y t ih =>
    simp only [List.all_cons, Bool.and_eq_true]
    have h1 := h.1
    have h2 := hb y List.mem_cons_self
    exact ⟨decide_eq_true ⟨by omega, by omega⟩, ih _ h.2.2.2 (by omega) fun e he => hb e (List.mem_cons_of_mem _ he)⟩

/-! ### the ticks -/
/-- The tick of character k. -/
def tickZ (ds : Nat → Nat) (ch : Int) (k : Nat) : Int := ((posTo ds (k + 1) : Int) * ch + 10) / 11
def evL (bs ds : Nat → Nat) (ch c : Int) : Nat → Nat → List Ev
  | 0, _ => []
  | n + 1, k => ⟨tickZ ds ch k, bs k, c⟩ :: evL bs ds ch c n (k + 1)
theorem evL_len (bs ds : Nat → Nat) (ch c : Int) (n k : Nat) : (evL bs ds ch c n k).length = n := by
  induction n generalizing k with
  | zero => rfl
  | succ n ih => simp [evL, ih]
theorem evL_get (bs ds : Nat → Nat) (ch c : Int) (n k j : Nat) (h : j < n) : (evL bs ds ch c n k)[j]? = some ⟨tickZ ds ch (k + j), bs (k + j), c⟩ := by
  induction n generalizing k j with
  | zero => omega
  | succ n ih =>
    rcases j with _ | j
    · rfl
    · rw [evL, List.getElem?_cons_succ, ih (k + 1) j (by omega), show k + 1 + j = k + (j + 1) by omega]
theorem evL_vals (bs ds : Nat → Nat) (ch c : Int) (n k : Nat) : (evL bs ds ch c n k).map (·.val) = (List.range n).map fun j => ((bs (k + j) : Nat) : Int) := by
  apply List.ext_getElem?
  intro j
  rw [List.getElem?_map, List.getElem?_map]
  by_cases h : j < n
  · rw [evL_get bs ds ch c n k j h, List.getElem?_range h]; rfl
  · rw [List.getElem?_eq_none (by rw [evL_len]; omega), List.getElem?_eq_none (by simp; omega)]; rfl
theorem tick_step (ds : Nat → Nat) (ch : Int) (k d : Nat) (hd : ds (k + 1) ≤ d) (hc : 0 ≤ ch) : tickZ ds ch k ≤ tickZ ds ch (k + 1) ∧ tickZ ds ch (k + 1) - ch - tickZ ds ch k ≤ (d : Int) * ch / 11 + 1 := by
  have e : (posTo ds (k + 1 + 1) : Int) = posTo ds (k + 1) + ds (k + 1) + 11 := by rw [posTo]; omega
  unfold tickZ
  rw [e]
  obtain ⟨P, hP⟩ : ∃ P : Int, (posTo ds (k + 1) : Int) * ch = P := ⟨_, rfl⟩
  obtain ⟨Q, hQ⟩ : ∃ Q : Int, ((ds (k + 1) : Nat) : Int) * ch = Q := ⟨_, rfl⟩
  obtain ⟨D, hD⟩ : ∃ D : Int, (d : Int) * ch = D := ⟨_, rfl⟩
  have h1 : ((posTo ds (k + 1) : Int) + ds (k + 1) + 11) * ch = P + Q + 11 * ch := by rw [Int.add_mul, Int.add_mul, hP, hQ]
  have h2 : Q ≤ D := by rw [← hQ, ← hD]; exact Int.mul_le_mul_of_nonneg_right (by omega) hc
  have h3 : 0 ≤ Q := by rw [← hQ]; exact Int.mul_nonneg (by omega) hc
  rw [h1, hP, hD]
  omega
theorem evL_chain (bs ds : Nat → Nat) (ch M c : Int) (d n k : Nat) (hd : ∀ j, 1 ≤ j → ds j ≤ d) (hc : 0 ≤ ch) (hM : (d : Int) * ch / 11 + 1 ≤ M) : chainC ch M c (tickZ ds ch k) (evL bs ds ch c n (k + 1)) := by
  induction n generalizing k with
  | zero => trivial
  | succ n ih =>
    obtain ⟨h1, h2⟩ := tick_step ds ch k d (hd (k + 1) (by omega)) hc
    exact ⟨h1, by show tickZ ds ch (k + 1) - ch - tickZ ds ch k ≤ M; omega, rfl, ih (k + 1)⟩
theorem tick_bd (ds : Nat → Nat) (ch : Int) (k H : Nat) (hc : 0 ≤ ch) (hc2 : ch ≤ 10000) (hp : posTo ds (k + 1) ≤ H) : 0 ≤ tickZ ds ch k ∧ tickZ ds ch k ≤ 10000 * H + 10 := by
  unfold tickZ
  obtain ⟨P, hP⟩ : ∃ P : Int, (posTo ds (k + 1) : Int) * ch = P := ⟨_, rfl⟩
  have h1 : 0 ≤ P := by rw [← hP]; exact Int.mul_nonneg (by omega) hc
  have h2 : P ≤ (H : Int) * 10000 := by rw [← hP]; exact Int.mul_le_mul (by omega) hc2 hc (by omega)
  rw [hP]
  omega
/-- The received frame: one, with these bytes and flags. -/
theorem evL_frames (bs ds : Nat → Nat) (ch t15 t35 c : Int) (d n H : Nat) (hd : ∀ j, 1 ≤ j → ds j ≤ d) (hn : 1 ≤ n) (hn2 : n ≤ 256) (hc : 0 ≤ ch) (hc2 : ch ≤ 10000) (h15 : (d : Int) * ch / 11 + 1 ≤ t15) (h35 : t15 < t35) (hcf : c = 0 ∨ c = 1) (hH : ∀ k, k < n → posTo ds (k + 1) ≤ H) (hH2 : H ≤ 1000000) :
    (evL bs ds ch c n 0).all inR = true ∧ ordE 0 (evL bs ds ch c n 0) = true ∧ ∃ fi la, framesS ch t15 t35 (evL bs ds ch c n 0) = [⟨(List.range n).map fun j => ((bs j : Nat) : Int), fi, la, c⟩] := by
  obtain ⟨m, rfl⟩ : ∃ m, n = m + 1 := ⟨n - 1, by omega⟩
  have hM0 : 0 ≤ (d : Int) * ch / 11 + 1 := by
    have : 0 ≤ (d : Int) * ch := Int.mul_nonneg (by omega) hc
    omega
  have hchain := evL_chain bs ds ch t15 c d m 0 hd hc h15
  have htb : ∀ k, k < m + 1 → 0 ≤ tickZ ds ch k ∧ tickZ ds ch k ≤ 10000 * H + 10 := fun k hk => tick_bd ds ch k H hc hc2 (hH k hk)
  have h00 := htb 0 (by omega)
  refine ⟨?_, ?_, tickZ ds ch 0, lastE (tickZ ds ch 0) (evL bs ds ch c m 1), ?_⟩
  · have hall : ∀ e ∈ evL bs ds ch c (m + 1) 0, e.at_ ≤ (10000 * H + 10 : Int) := fun e he => by
      obtain ⟨j, hj, rfl⟩ := List.getElem_of_mem he
      rw [evL_len] at hj
      have h1 := evL_get bs ds ch c (m + 1) 0 j hj
      rw [List.getElem?_eq_getElem (by rw [evL_len]; exact hj)] at h1
      injection h1 with h1
      rw [h1]
      have := (htb j hj).2
      simpa using this
    have h1 : chainC ch (10000 * H + 10) c 0 [] := trivial
    rw [evL, List.all_cons, Bool.and_eq_true]
    refine ⟨decide_eq_true ⟨by simp only; omega, by simp only; omega⟩, in_c ch t15 c _ (10000 * H + 10) _ hchain h00.1 (fun e he => hall e (by rw [evL]; exact List.mem_cons_of_mem _ he)) (by omega)⟩
  · rw [evL, ordE, Bool.and_eq_true, decide_eq_true_eq]
    exact ⟨h00.1, ord_c ch t15 c _ _ hchain⟩
  · rw [evL, frames_c ch t15 t35 t15 c _ _ rfl hchain (by omega) (Int.le_refl _) h35 (flC t15 c hcf) (by rw [List.length_cons, evL_len]; omega)]
    have hv := evL_vals bs ds ch c (m + 1) 0
    rw [evL] at hv
    rw [hv]
    simp
end Go.Proofs.Ytoliplochipoeaa

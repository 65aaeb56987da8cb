import Derived.IntWalk
import Derived.Lib.AppendZeros
import Derived.RegionTactic
import Derived.Deep.DeepCutAuto
import Derived.Test.YtoliplochipoeaaRows
import Derived.BigQuiet
import Derived.Test.YtoliplochipoeaaB5
/- The layers together, in plain words: a frame sent bit by bit is received as one frame. -/
set_option linter.unusedVariables false
set_option linter.unusedSimpArgs false
namespace Go.Proofs.Ytoliplochipoeaa
open Go.RowKit

/-! ### the bits -/
section
variable (bs ds : Nat → Nat) (p q c : Int)
def evF (k : Nat) : UEv := ⟨posTo ds k + ds k + 10, bs k, c⟩
theorem lineF_chars (hp : 0 ≤ p ∧ p ≤ 2) (hb : ∀ k, bs k ≤ 255) (hd : ∀ b, b ≤ 255 → decode (encode b p) q = (b, c, true)) (tl : List Bool) (n : Nat) : ∀ k, k ≤ n → chars (lineTo bs ds p n ++ tl) q 0 = (List.range k).map (evF bs ds c) ++ chars (lineTo bs ds p n ++ tl) q (posTo ds k) := by
  intro k
  induction k with
  | zero => intro _; rfl
  | succ k ih =>
    intro hk
    rw [ih (by omega), List.range_succ, List.map_append, List.append_assoc]
    congr 1
    obtain ⟨t, ht⟩ := lineTo_tail bs ds p k n (by omega)
    have hL : lineTo bs ds p n ++ tl = lineTo bs ds p k ++ (List.replicate (ds k) true ++ (encode (bs k) p ++ (t ++ tl))) := by rw [ht]; simp [List.append_assoc]
    have hlen := lineTo_length bs ds p hp k
    have he := enc_length (bs k) p hp
    generalize hLL : lineTo bs ds p n ++ tl = L at hL ⊢
    have h1 : ∀ j, j < ds k → bt L (posTo ds k + j) = true := fun j hj => by rw [hL, bt_app _ _ _ _ hlen]; exact bt_rep _ _ _ hj
    have hA : (lineTo bs ds p k ++ List.replicate (ds k) true).length = posTo ds k + ds k := by rw [List.length_append, hlen, List.length_replicate]
    have hL2 : L = (lineTo bs ds p k ++ List.replicate (ds k) true) ++ (encode (bs k) p ++ (t ++ tl)) := by rw [hL]; simp [List.append_assoc]
    have h2 : bt L (posTo ds k + ds k) = false := by
      have := bt_app (lineTo bs ds p k ++ List.replicate (ds k) true) (encode (bs k) p ++ (t ++ tl)) (posTo ds k + ds k) 0 hA
      rw [Nat.add_zero, ← hL2] at this
      rw [this, encode, if_pos hp]; simp [bt]
    have h3 : (L.drop (posTo ds k + ds k)).take 11 = encode (bs k) p := by
      rw [hL2, ← hA, List.drop_left, ← he, List.take_left]
    have h4 : posTo ds k + ds k + 11 ≤ L.length := by
      rw [hL2, List.length_append, hA, List.length_append, he]; omega
    have h5 : chrAt L q (posTo ds k + ds k) = (bs k, c, true) := by
      rw [chrAt, h3]; exact hd _ (hb k)
    rw [chars_skips L q _ _ h1, chr_eq h5 h4 h2]
    rfl
theorem lineF_all (hp : 0 ≤ p ∧ p ≤ 2) (hq : 0 ≤ q ∧ q ≤ 2) (hb : ∀ k, bs k ≤ 255) (hd : ∀ b, b ≤ 255 → decode (encode b p) q = (b, c, true)) (tl : List Bool) (ht : tl.length < 11) (n : Nat) : streamL (lineTo bs ds p n ++ tl) q = (List.range n).map (evF bs ds c) := by
  rw [streamL, if_pos hq, lineF_chars bs ds p q c hp hb hd tl n n (Nat.le_refl _)]
  have : chars (lineTo bs ds p n ++ tl) q (posTo ds n) = [] := by
    apply chars_short
    rw [List.length_append, lineTo_length bs ds p hp]; omega
  rw [this, List.append_nil]
end

/-! ### the frame -/
/-- Characters with the flags c, each within M ticks of silence behind the one before. -/
def chainC (ch M c : Int) : Int → List Ev → Prop
  | _, [] => True
  | t, e :: l => t ≤ e.at_ ∧ e.at_ - ch - t ≤ M ∧ e.fl = c ∧ chainC ch M c e.at_ l
def stC (c : Int) (xs : List Int) (fi at_ : Int) : Rs := ⟨xs, fi, at_, c, true, at_, 0⟩
def FlC (t15 c : Int) : Prop := (∀ s n, s ≤ t15 → n < 256 → addFl true s t15 n c c = c) ∧ (∀ s n, n < 256 → addFl false s t15 n 0 c = c)
theorem flC (t15 c : Int) (h : c = 0 ∨ c = 1) : FlC t15 c := by
  constructor
  · intro s n hs hn
    unfold addFl
    rw [if_pos hn, if_neg (show ¬ (true = true ∧ t15 < s) by omega)]
    rcases h with rfl | rfl <;> decide
  · intro s n hn
    unfold addFl
    rw [if_pos hn, if_neg (show ¬ (false = true ∧ t15 < s) by simp)]
    rcases h with rfl | rfl <;> decide
theorem step_c (ch t15 t35 M c at_ fi : Int) (xs : List Int) (e : Ev) (h1 : e.at_ - ch - at_ ≤ M) (hfl : e.fl = c) (h0 : 0 ≤ M) (h15 : M ≤ t15) (h35 : M < t35) (hc : FlC t15 c) (hl : xs.length < 256) :
    endS ch t35 (stC c xs fi at_) e = false ∧ charS ch t15 t35 (stC c xs fi at_) e = stC c (xs ++ [e.val]) fi e.at_ := by
  obtain ⟨ea, ev, ef⟩ := e
  dsimp only at h1 hfl ⊢
  subst hfl
  have hs : silS ch (stC ef xs fi at_) ⟨ea, ev, ef⟩ ≤ M := by
    simp only [silS, stC]
    omega
  obtain ⟨s, hs2⟩ : ∃ s, silS ch (stC ef xs fi at_) ⟨ea, ev, ef⟩ = s := ⟨_, rfl⟩
  rw [hs2] at hs
  have he : endS ch t35 (stC ef xs fi at_) ⟨ea, ev, ef⟩ = false := by
    simp only [endS, hs2, Bool.and_eq_false_iff]
    exact .inr (by simp; omega)
  refine ⟨he, ?_⟩
  rw [charS, he, hs2]
  simp only [Bool.false_eq_true, if_false, addS, stC, if_pos hl, if_true]
  rw [hc.1 s _ (by omega) hl]
theorem run_c (ch t15 t35 M c at_ fi : Int) (xs : List Int) (l : List Ev) (hch : chainC ch M c at_ l) (h0 : 0 ≤ M) (h15 : M ≤ t15) (h35 : M < t35) (hc : FlC t15 c) (hl : xs.length + l.length ≤ 256) :
    runS ch t15 t35 (stC c xs fi at_) l = ([], stC c (xs ++ l.map (·.val)) fi (lastE at_ l)) := by
  induction l generalizing at_ xs with
  | nil => simp [runS, lastE]
  | cons y t ih =>
    simp only [List.length_cons] at hl
    obtain ⟨h1, h2, h3, h4⟩ := hch
    obtain ⟨a, b⟩ := step_c ch t15 t35 M c at_ fi xs y h2 h3 h0 h15 h35 hc (by omega)
    rw [runS, a, b, ih _ _ h4 (by simp; omega)]
    simp [lastE]
theorem frames_c (ch t15 t35 M c : Int) (y : Ev) (l : List Ev) (hy : y.fl = c) (hch : chainC ch M c y.at_ l) (h0 : 0 ≤ M) (h15 : M ≤ t15) (h35 : M < t35) (hc : FlC t15 c) (hl : (y :: l).length ≤ 256) :
    framesS ch t15 t35 (y :: l) = [⟨(y :: l).map (·.val), y.at_, lastE y.at_ l, c⟩] := by
  have h1 : charS ch t15 t35 .zero y = stC c [y.val] y.at_ y.at_ := by
    obtain ⟨ya, yv, yf⟩ := y
    dsimp only at hy
    subst hy
    rw [charS, show endS ch t35 .zero ⟨ya, yv, yf⟩ = false from rfl]
    simp only [Bool.false_eq_true, if_false, addS, Rs.zero, stC]
    rw [hc.2 _ _ (by simp)]
    rfl
  have h2 : runS ch t15 t35 .zero (y :: l) = ([], stC c ((y :: l).map (·.val)) y.at_ (lastE y.at_ l)) := by
    rw [runS, h1, run_c ch t15 t35 M c _ _ _ l hch h0 h15 h35 hc (by simp only [List.length_cons, List.length_nil] at hl ⊢; omega)]
    rfl
  rw [framesS, h2]
  rfl
theorem ord_c (ch M c at_ : Int) (l : List Ev) (h : chainC ch M c at_ l) : ordE at_ l = true := by
  induction l generalizing at_ with
  | nil => rfl
  | cons y t ih => simp only [ordE, Bool.and_eq_true, decide_eq_true_eq]; exact ⟨h.1, ih _ h.2.2.2⟩
theorem in_c (ch M c at_ H : Int) (l : List Ev) (h : chainC ch M c at_ l) (h0 : 0 ≤ at_) (hb : ∀ e ∈ l, e.at_ ≤ H) (hH : H ≤ 1152921504606846976) : l.all inR = true := by
  induction l generalizing at_ with
  | nil => rfl
  | cons y t ih =>
    simp only [List.all_cons, Bool.and_eq_true]
    have h1 := h.1
    have h2 := hb y List.mem_cons_self
    exact ⟨decide_eq_true ⟨by omega, by omega⟩, ih _ h.2.2.2 (by omega) fun e he => hb e (List.mem_cons_of_mem _ he)⟩

/-! ### the ticks -/
/-- The tick of character k. -/
def tickZ (ds : Nat → Nat) (ch : Int) (k : Nat) : Int := ((posTo ds (k + 1) : Int) * ch + 10) / 11
def evL (bs ds : Nat → Nat) (ch c : Int) : Nat → Nat → List Ev
  | 0, _ => []
  | n + 1, k => ⟨tickZ ds ch k, bs k, c⟩ :: evL bs ds ch c n (k + 1)
theorem evL_len (bs ds : Nat → Nat) (ch c : Int) (n k : Nat) : (evL bs ds ch c n k).length = n := by
  induction n generalizing k with
  | zero => rfl
  | succ n ih => simp [evL, ih]
theorem evL_get (bs ds : Nat → Nat) (ch c : Int) (n k j : Nat) (h : j < n) : (evL bs ds ch c n k)[j]? = some ⟨tickZ ds ch (k + j), bs (k + j), c⟩ := by
  induction n generalizing k j with
  | zero => omega
  | succ n ih =>
    rcases j with _ | j
    · rfl
    · rw [evL, List.getElem?_cons_succ, ih (k + 1) j (by omega), show k + 1 + j = k + (j + 1) by omega]
theorem evL_vals (bs ds : Nat → Nat) (ch c : Int) (n k : Nat) : (evL bs ds ch c n k).map (·.val) = (List.range n).map fun j => ((bs (k + j) : Nat) : Int) := by
  apply List.ext_getElem?
  intro j
  rw [List.getElem?_map, List.getElem?_map]
  by_cases h : j < n
  · rw [evL_get bs ds ch c n k j h, List.getElem?_range h]; rfl
  · rw [List.getElem?_eq_none (by rw [evL_len]; omega), List.getElem?_eq_none (by simp; omega)]; rfl
theorem tick_step (ds : Nat → Nat) (ch : Int) (k d : Nat) (hd : ds (k + 1) ≤ d) (hc : 0 ≤ ch) : tickZ ds ch k ≤ tickZ ds ch (k + 1) ∧ tickZ ds ch (k + 1) - ch - tickZ ds ch k ≤ (d : Int) * ch / 11 + 1 := by
  have e : (posTo ds (k + 1 + 1) : Int) = posTo ds (k + 1) + ds (k + 1) + 11 := by rw [posTo]; omega
  unfold tickZ
  rw [e]
  obtain ⟨P, hP⟩ : ∃ P : Int, (posTo ds (k + 1) : Int) * ch = P := ⟨_, rfl⟩
  obtain ⟨Q, hQ⟩ : ∃ Q : Int, ((ds (k + 1) : Nat) : Int) * ch = Q := ⟨_, rfl⟩
  obtain ⟨D, hD⟩ : ∃ D : Int, (d : Int) * ch = D := ⟨_, rfl⟩
  have h1 : ((posTo ds (k + 1) : Int) + ds (k + 1) + 11) * ch = P + Q + 11 * ch := by rw [Int.add_mul, Int.add_mul, hP, hQ]
  have h2 : Q ≤ D := by rw [← hQ, ← hD]; exact Int.mul_le_mul_of_nonneg_right (by omega) hc
  have h3 : 0 ≤ Q := by rw [← hQ]; exact Int.mul_nonneg (by omega) hc
  rw [h1, hP, hD]
  omega
theorem evL_chain (bs ds : Nat → Nat) (ch M c : Int) (d n k : Nat) (hd : ∀ j, 1 ≤ j → ds j ≤ d) (hc : 0 ≤ ch) (hM : (d : Int) * ch / 11 + 1 ≤ M) : chainC ch M c (tickZ ds ch k) (evL bs ds ch c n (k + 1)) := by
  induction n generalizing k with
  | zero => trivial
  | succ n ih =>
    obtain ⟨h1, h2⟩ := tick_step ds ch k d (hd (k + 1) (by omega)) hc
    exact ⟨h1, by show tickZ ds ch (k + 1) - ch - tickZ ds ch k ≤ M; omega, rfl, ih (k + 1)⟩
theorem tick_bd (ds : Nat → Nat) (ch : Int) (k H : Nat) (hc : 0 ≤ ch) (hc2 : ch ≤ 10000) (hp : posTo ds (k + 1) ≤ H) : 0 ≤ tickZ ds ch k ∧ tickZ ds ch k ≤ 10000 * H + 10 := by
  unfold tickZ
  obtain ⟨P, hP⟩ : ∃ P : Int, (posTo ds (k + 1) : Int) * ch = P := ⟨_, rfl⟩
  have h1 : 0 ≤ P := by rw [← hP]; exact Int.mul_nonneg (by omega) hc
  have h2 : P ≤ (H : Int) * 10000 := by rw [← hP]; exact Int.mul_le_mul (by omega) hc2 hc (by omega)
  rw [hP]
  omega
/-- The received frame: one, with these bytes and flags. -/
theorem evL_frames (bs ds : Nat → Nat) (ch t15 t35 c : Int) (d n H : Nat) (hd : ∀ j, 1 ≤ j → ds j ≤ d) (hn : 1 ≤ n) (hn2 : n ≤ 256) (hc : 0 ≤ ch) (hc2 : ch ≤ 10000) (h15 : (d : Int) * ch / 11 + 1 ≤ t15) (h35 : t15 < t35) (hcf : c = 0 ∨ c = 1) (hH : ∀ k, k < n → posTo ds (k + 1) ≤ H) (hH2 : H ≤ 1000000) :
    (evL bs ds ch c n 0).all inR = true ∧ ordE 0 (evL bs ds ch c n 0) = true ∧ ∃ fi la, framesS ch t15 t35 (evL bs ds ch c n 0) = [⟨(List.range n).map fun j => ((bs j : Nat) : Int), fi, la, c⟩] := by
  obtain ⟨m, rfl⟩ : ∃ m, n = m + 1 := ⟨n - 1, by omega⟩
  have hM0 : 0 ≤ (d : Int) * ch / 11 + 1 := by
    have : 0 ≤ (d : Int) * ch := Int.mul_nonneg (by omega) hc
    omega
  have hchain := evL_chain bs ds ch t15 c d m 0 hd hc h15
  have htb : ∀ k, k < m + 1 → 0 ≤ tickZ ds ch k ∧ tickZ ds ch k ≤ 10000 * H + 10 := fun k hk => tick_bd ds ch k H hc hc2 (hH k hk)
  have h00 := htb 0 (by omega)
  refine ⟨?_, ?_, tickZ ds ch 0, lastE (tickZ ds ch 0) (evL bs ds ch c m 1), ?_⟩
  · have hall : ∀ e ∈ evL bs ds ch c (m + 1) 0, e.at_ ≤ (10000 * H + 10 : Int) := fun e he => by
      obtain ⟨j, hj, rfl⟩ := List.getElem_of_mem he
      rw [evL_len] at hj
      have h1 := evL_get bs ds ch c (m + 1) 0 j hj
      rw [List.getElem?_eq_getElem (by rw [evL_len]; exact hj)] at h1
      injection h1 with h1
      rw [h1]
      have := (htb j hj).2
      simpa using this
    have h1 : chainC ch (10000 * H + 10) c 0 [] := trivial
    rw [evL, List.all_cons, Bool.and_eq_true]
    refine ⟨decide_eq_true ⟨by simp only; omega, by simp only; omega⟩, in_c ch t15 c _ (10000 * H + 10) _ hchain h00.1 (fun e he => hall e (by rw [evL]; exact List.mem_cons_of_mem _ he)) (by omega)⟩
  · rw [evL, ordE, Bool.and_eq_true, decide_eq_true_eq]
    exact ⟨h00.1, ord_c ch t15 c _ _ hchain⟩
  · rw [evL, frames_c ch t15 t35 t15 c _ _ rfl hchain (by omega) (Int.le_refl _) h35 (flC t15 c hcf) (by rw [List.length_cons, evL_len]; omega)]
    have hv := evL_vals bs ds ch c (m + 1) 0
    rw [evL] at hv
    rw [hv]
    simp
end Go.Proofs.Ytoliplochipoeaa

/- Layer 8: package crc: Update, Extend, Sum. -/
set_option linter.unusedVariables false
set_option linter.unusedSimpArgs false
namespace Go.Proofs.Ytoliplochipoeaa
open Go.RowKit

/-- One of the eight rounds of Update. -/
def crcSt (c : Int) : Int := if (bits BinOp.and IntKind.u16 c 1 == 1) = true then bits BinOp.xor IntKind.u16 (c / 2) 40961 else c / 2
def crcN : Nat → Int → Int
  | 0, c => c
  | k + 1, c => crcSt (crcN k c)
def crcU (c b : Int) : Int := crcN 8 (bits BinOp.xor IntKind.u16 c b)
theorem bits_u16 (o : BinOp) (x y : Int) : 0 ≤ bits o IntKind.u16 x y ∧ bits o IntKind.u16 x y ≤ 65535 := by
  unfold bits
  have h : ∀ n : Int, 0 ≤ IntKind.u16.wrap n ∧ IntKind.u16.wrap n ≤ 65535 := fun n => by
    rw [show IntKind.u16.wrap n = n % 65536 by simp [IntKind.wrap, IntKind.bits, IntKind.signed]]; omega
  exact h _
theorem crcSt_bd (c : Int) (h : 0 ≤ c ∧ c ≤ 65535) : 0 ≤ crcSt c ∧ crcSt c ≤ 65535 := by
  unfold crcSt
  split
  · exact bits_u16 _ _ _
  · omega
theorem crcN_bd (k : Nat) (c : Int) (h : 0 ≤ c ∧ c ≤ 65535) : 0 ≤ crcN k c ∧ crcN k c ≤ 65535 := by
  induction k with
  | zero => exact h
  | succ k ih => exact crcSt_bd _ ih
theorem crcU_bd (c b : Int) : 0 ≤ crcU c b ∧ crcU c b ≤ 65535 := crcN_bd 8 _ (bits_u16 _ _ _)
/-- The checksum of bytes. -/
def crcL (l : List Int) : Int := l.foldl crcU 65535
theorem crcL_bd (l : List Int) : 0 ≤ crcL l ∧ crcL l ≤ 65535 := by
  have : ∀ (l : List Int) (a : Int), 0 ≤ a ∧ a ≤ 65535 → 0 ≤ l.foldl crcU a ∧ l.foldl crcU a ≤ 65535 := by
    intro l
    induction l with
    | nil => intro a h; exact h
    | cons x t ih => intro a _; exact ih _ (crcU_bd a x)
  exact this l 65535 (by omega)
set_option maxHeartbeats 1000000 in
theorem crcUpdate_any (c b : Int) (hc : 0 ≤ c ∧ c ≤ 65535) (hb : 0 ≤ b ∧ b ≤ 255) (w : World) :
    Calls Try.prog 78 #[.int .u16 c, .int .u8 b] w fun e w' => e = .returned (.int .u16 (crcU c b)) ∧ w = w' := by
  obtain ⟨r, hr⟩ : ∃ r, crcU c b = r := ⟨_, rfl⟩
  have HR := Lib.hid hr
  have e1 : IntKind.u16.wrap b = b := by rw [show IntKind.u16.wrap b = b % 65536 by simp [IntKind.wrap, IntKind.bits, IntKind.signed]]; omega
  rw [hr]
  clear hr
  obtain ⟨c0, hc0⟩ : ∃ z, bits BinOp.xor IntKind.u16 c b = z := ⟨_, rfl⟩
  have hb0 := bits_u16 BinOp.xor c b
  rw [hc0] at hb0
  have HC0 := Lib.hid hc0
  go_enter Try.func78, Try.ntmps78
  go_wp2_with fail
  try rw [hc0]
  clear hc0
  go_loop [0, 10] (fun x i => ∃ k : Nat, k ≤ 8 ∧ i = .int .i64 k ∧ x = .int .u16 (crcN k c0)) (fun _ i => 8 - (intOf i).toNat)
  case atStart => exact ⟨0, by omega, rfl, rfl⟩
  case round =>
    obtain ⟨k, hk, rfl, rfl⟩ := hrel
    have hbk := crcN_bd k c0 hb0
    by_cases hlt : k < 8
    · obtain ⟨x, hx⟩ : ∃ x, crcN k c0 = x := ⟨_, rfl⟩
      have hst : crcN (k + 1) c0 = crcSt x := by rw [crcN, hx]
      rw [hx] at hbk ⊢
      have HST := Lib.hid hst
      clear hst hx
      obtain ⟨t, ht⟩ : ∃ t, (bits BinOp.and IntKind.u16 x 1 == 1) = t := ⟨_, rfl⟩
      have hd : decide ((k : Int) < 8) = true := by simp; omega
      have hsx : crcSt x = if t = true then bits BinOp.xor IntKind.u16 (x / 2) 40961 else x / 2 := by rw [← ht]; rfl
      have HSX := Lib.hid hsx
      clear hsx
      cases t
      · go_wp2
        exact ⟨⟨k + 1, by omega, by go_num, by rw [HST.out, HSX.out]; rfl⟩, by simp [intOf]; omega⟩
      · go_wp2
        exact ⟨⟨k + 1, by omega, by go_num, by rw [HST.out, HSX.out]; rfl⟩, by simp [intOf]; omega⟩
    · obtain rfl : k = 8 := by omega
      have hfin : crcN 8 c0 = r := by rw [← HR.out, crcU, HC0.out]
      rw [hfin]
      go_wp2
      go_ret
      exact ⟨rfl, rfl⟩

/-- A byte of a row of bytes. -/
theorem by_at {w : World} {B n : Nat} {A : Option Addr} {xs : List Int} (h : Rd w B 1 A n (by8 xs)) (k : Nat) (hk : k < n) : ∃ b off, A = some ⟨b, off, none⟩ ∧ b < B ∧ ∃ hk : k < xs.length, w.cell? ⟨b, off + k, none⟩ = some (.int .u8 xs[k]) := by
  have hl : xs.length = n := by have := h.1; simpa using this
  obtain ⟨b, off, e, hb, hc⟩ := h.2 (by omega)
  exact ⟨b, off, e, hb, by omega, hc k _ (by simp [List.getElem?_eq_getElem (show k < xs.length by omega)])⟩
theorem foldl_take {β : Type} (f : β → Int → β) (a : β) (l : List Int) (k : Nat) (h : k < l.length) : (l.take (k + 1)).foldl f a = f ((l.take k).foldl f a) l[k] := by
  rw [List.take_succ_eq_append_getElem h, List.foldl_append]; rfl
theorem crcFold_bd (l : List Int) (a : Int) (h : 0 ≤ a ∧ a ≤ 65535) : 0 ≤ l.foldl crcU a ∧ l.foldl crcU a ≤ 65535 := by
  induction l generalizing a with
  | nil => exact h
  | cons x t ih => exact ih _ (crcU_bd a x)
set_option maxHeartbeats 1000000 in
theorem crcExtend_any (c : Int) (xs : List Int) (A : Option Addr) (n cap B : Nat) (w : World) (hc : 0 ≤ c ∧ c ≤ 65535) (hr : Rd w B 1 A n (by8 xs)) (hx : ∀ x ∈ xs, 0 ≤ x ∧ x ≤ 255) (hn : n ≤ 1000000) :
    Calls Try.prog 67 #[.int .u16 c, .slice A n cap] w fun e w' => e = .returned (.int .u16 (xs.foldl crcU c)) ∧ w = w' := by
  have hl : xs.length = n := by have := hr.1; simpa using this
  have HR := Lib.hid (hr.fits (by decide))
  have HX := Lib.hid hx
  have HL := Lib.hid hl
  have HC := Lib.hid hc
  clear hr hx hl hc
  go_enter Try.func67, Try.ntmps67
  go_wp2_with fail
  go_loopw [0, 6, 9] (fun x _ i wr => ∃ k : Nat, k ≤ n ∧ i = .int .i64 k ∧ x = .int .u16 ((xs.take k).foldl crcU c) ∧ w = wr) (fun _ _ i _ => n - (intOf i).toNat)
  case atStart => exact ⟨0, by omega, rfl, rfl, rfl⟩
  case round =>
    obtain ⟨k, hk, rfl, rfl, rfl⟩ := hrel
    have hbk := crcFold_bd (xs.take k) c HC.out
    by_cases hlt : k < n
    · obtain ⟨b, off, rfl, hb, hkl, z0⟩ := by_at HR.out k hlt
      have hf := foldl_take crcU c xs k hkl
      have hxk := HX.out xs[k] (List.getElem_mem _)
      obtain ⟨y, hy⟩ : ∃ y, xs[k] = y := ⟨_, rfl⟩
      obtain ⟨z, hz⟩ : ∃ z, (xs.take k).foldl crcU c = z := ⟨_, rfl⟩
      rw [hy] at z0 hf hxk
      rw [hz] at hf hbk ⊢
      have HF := Lib.hid hf
      have HU := Lib.hid (fun W => crcUpdate_any z y hbk hxk W)
      clear hf hy hz hbk hxk
      go_wp2_with fail
      refine (HU.out _).mono ?_
      rintro e w' ⟨rfl, rfl⟩
      go_wp2
      exact ⟨⟨k + 1, by omega, by go_num, by rw [HF.out], by trivial⟩, by simp [intOf]; omega⟩
    · obtain rfl : k = n := by omega
      rw [List.take_of_length_le (by rw [HL.out]; exact Nat.le_refl _)]
      go_wp2
      go_ret
      exact ⟨rfl, rfl⟩
theorem crcSum_any (xs : List Int) (A : Option Addr) (n cap B : Nat) (w : World) (hr : Rd w B 1 A n (by8 xs)) (hx : ∀ x ∈ xs, 0 ≤ x ∧ x ≤ 255) (hn : n ≤ 1000000) :
    Calls Try.prog 48 #[.slice A n cap] w fun e w' => e = .returned (.int .u16 (crcL xs)) ∧ w = w' := by
  have HE := Lib.hid (fun W (h : Rd W B 1 A n (by8 xs)) => crcExtend_any 65535 xs A n cap B W (by omega) h hx hn)
  have HR := Lib.hid hr
  clear hr hx
  go_enter Try.func48, Try.ntmps48
  go_wp2_with fail
  refine (HE.out _ HR.out).mono ?_
  rintro e w' ⟨rfl, rfl⟩
  go_wp2
  go_ret
  exact ⟨rfl, rfl⟩
end Go.Proofs.Ytoliplochipoeaa

/- Layer 8: slices.Grow of nil, slices.Concat of two, crc.Append, crc.Check; adu.Build and adu.Split of a built frame. -/
set_option linter.unusedVariables false
set_option linter.unusedSimpArgs false
namespace Go.Proofs.Ytoliplochipoeaa
open Go.RowKit

theorem intKind : Try.prog.underlying 3 = some (.int .i64) := Try.underlying3
set_option maxHeartbeats 1000000 in
theorem grow_nil (n : Nat) (h1 : 1 ≤ n) (h2 : n ≤ 100000) (w : World) :
    Calls Try.prog 68 #[.slice none 0 0, .int .i64 n] w fun e w' => ∃ cap, e = .returned (.slice (some ⟨w.heap.size, 0, none⟩) 0 cap) ∧ w'.ownsRow w.heap.size 5 1 (.slice (some ⟨w.heap.size, 0, none⟩) 0 cap) 0 [] ∧ Below w.heap.size w w' := by
  obtain ⟨i, hi, hz, hs, hb⟩ := info_parts byteInfo
  have HAP := Lib.hid (fun W => Lib.run_append_nil_zeros (P := Try.prog) W 22 3 22 5 i (.int .u8 0) .i64 .i64 Try.underlying22 Try.underlying3 hi hz n (by omega) (by omega) (by omega) (by rw [hb]; omega))
  have d1 : decide ((n : Int) < 0) = false := by simp
  have d2 : decide ((0 : Int) < (n : Int)) = true := by simp; omega
  have d3 : decide (0 < n) = true := by simp; omega
  have hge : n ≤ grownCap w n 0 5 := grownCap_ge w n 0 _
  have hle : grownCap w n 0 5 ≤ maxLen := grownCap_le_maxLen w n 0 _ (by unfold maxLen; omega)
  obtain ⟨cap, hcap⟩ : ∃ c, grownCap w n 0 5 = c := ⟨_, rfl⟩
  have HAP2 := Lib.hid (HAP.out w)
  rw [hcap] at HAP2 hge hle
  have hsz : (Builtin.zeroCells (Value.int IntKind.u8 0).cells n ++ Builtin.zeroCells (Value.int IntKind.u8 0).cells (cap - n)).size = cap * 1 := by
    simp [Builtin.zeroCells, Value.cells]; omega
  have HOW := Lib.hid (World.ownsRow_made (base := w.heap.size) (e := 5) (size := 1) w.drew (Builtin.zeroCells (Value.int IntKind.u8 0).cells n ++ Builtin.zeroCells (Value.int IntKind.u8 0).cells (cap - n)) cap (Nat.le_refl _) hle hsz)
  obtain ⟨row, hrow⟩ : ∃ r, Builtin.zeroCells (Value.int IntKind.u8 0).cells n ++ Builtin.zeroCells (Value.int IntKind.u8 0).cells (cap - n) = r := ⟨_, rfl⟩
  rw [hrow] at HAP2 HOW
  clear hi hz hs hb hcap hrow hsz HAP
  go_enter Try.func68, Try.ntmps68
  go_wp2_with (at_builtin; refine Lib.wpList_append_run _ rfl _ _ _ _ rfl _ _ rfl rfl _ _ HAP2.out ?_)
  go_ret
  exact ⟨cap, rfl, HOW.out, (below_drew (Below.refl _ w)).alloc (Nat.le_refl _) _⟩

theorem by8_append (a b : List Int) : by8 (a ++ b) = by8 a ++ by8 b := by simp
set_option maxRecDepth 100000 in
set_option maxHeartbeats 4000000 in
/-- slices.Concat of two slices, of which the first is not empty. -/
theorem concat_two (gb cc : Nat) (A A2 : Option Addr) (n c m c2 : Nat) (xs ys : List Int) (w : World) (c0 : w.cell? ⟨gb, 0, none⟩ = some (.slice A n c)) (c1 : w.cell? ⟨gb, 1, none⟩ = some (.slice A2 m c2)) (hgl : gb < w.heap.size)
    (hr : Rd w w.heap.size 1 A n (by8 xs)) (hr2 : Rd w w.heap.size 1 A2 m (by8 ys)) (hn : 1 ≤ n) (hn2 : n ≤ 1000) (hm : m ≤ 1000) :
    Calls Try.prog 49 #[.slice (some ⟨gb, 0, none⟩) 2 cc] w fun e w' => ∃ v, e = .returned v ∧ w'.ownsRow w.heap.size 5 1 v (n + m) (by8 (xs ++ ys)) ∧ Below w.heap.size w w' := by
  have HR := Lib.hid hr
  have HR2 := Lib.hid hr2
  have HG := Lib.hid (fun W => grow_nil (n + m) (by omega) (by omega) W)
  clear hr hr2
  go_enter Try.func49, Try.ntmps49
  go_wp2_with fail
  go_loopw [3, 5, 11] (fun z _ i wr => ∃ k : Nat, k ≤ 2 ∧ i = .int .i64 k ∧ z = .int .i64 ((if k = 0 then 0 else if k = 1 then n else n + m : Nat) : Int) ∧ w = wr) (fun _ _ i _ => 2 - (intOf i).toNat)
  case atStart => exact ⟨0, by omega, rfl, rfl, rfl⟩
  case round =>
    obtain ⟨k, hk, rfl, rfl, rfl⟩ := hrel
    rcases (show k = 0 ∨ k = 1 ∨ k = 2 by omega) with rfl | rfl | rfl
    · go_wp2
      exact ⟨⟨1, by omega, by go_num, by simp, by trivial⟩, by simp [intOf]⟩
    · have e1 : ((if (1 : Nat) = 0 then 0 else if (1 : Nat) = 1 then n else n + m : Nat) : Int) = (n : Int) := by simp
      rw [e1]
      clear e1
      go_wp2
      exact ⟨⟨2, by omega, by go_num, by simp, by trivial⟩, by simp [intOf]⟩
    · have e1 : ((if (2 : Nat) = 0 then 0 else if (2 : Nat) = 1 then n else n + m : Nat) : Int) = ((n + m : Nat) : Int) := by simp
      rw [e1]
      clear e1
      obtain ⟨nm, hnm⟩ : ∃ z, n + m = z := ⟨_, rfl⟩
      rw [hnm] at HG ⊢
      have HNM := Lib.hid hnm
      clear hnm
      go_wp2_with fail
      refine (HG.out _).mono ?_
      rintro e w1 ⟨cap, rfl, hown, hb1⟩
      obtain ⟨v0, hv0⟩ : ∃ v, Value.slice (some ⟨w.heap.size, 0, none⟩) 0 cap = v := ⟨_, rfl⟩
      rw [hv0] at hown ⊢
      have HO1 := Lib.hid hown
      have HB1 := Lib.hid hb1
      have d0 : w1.cell? ⟨gb, 0, none⟩ = some (.slice A n c) := (hb1.cell (p := ⟨gb, 0, none⟩) hgl).trans c0
      have d1 : w1.cell? ⟨gb, 1, none⟩ = some (.slice A2 m c2) := (hb1.cell (p := ⟨gb, 1, none⟩) hgl).trans c1
      clear hown hb1 hv0 c0 c1
      go_wp2_with fail
      go_loopw [6, 8, 27] (fun v _ i wr => ∃ k : Nat, k ≤ 2 ∧ i = .int .i64 k ∧ wr.ownsRow w.heap.size 5 1 v (if k = 0 then 0 else if k = 1 then n else n + m) (by8 (if k = 0 then [] else if k = 1 then xs else xs ++ ys)) ∧ Below w.heap.size w wr) (fun _ _ i _ => 2 - (intOf i).toNat)
      case atStart => exact ⟨0, by omega, rfl, HO1.out, HB1.out⟩
      case round =>
        obtain ⟨k, hk, rfl, hown, hbr⟩ := hrel
        have HO := Lib.hid hown
        have hsz := hbr.size
        have d0 : wr.cell? ⟨gb, 0, none⟩ = some (.slice A n c) := (hbr.cell (p := ⟨gb, 0, none⟩) hgl).trans ((HB1.out.cell (p := ⟨gb, 0, none⟩) hgl).symm.trans d0)
        have d1 : wr.cell? ⟨gb, 1, none⟩ = some (.slice A2 m c2) := (hbr.cell (p := ⟨gb, 1, none⟩) hgl).trans ((HB1.out.cell (p := ⟨gb, 1, none⟩) hgl).symm.trans d1)
        clear hown
        rcases (show k = 0 ∨ k = 1 ∨ k = 2 by omega) with rfl | rfl | rfl
        · have HOx := Lib.hid (show wr.ownsRow w.heap.size 5 1 _ 0 (by8 []) from HO.out)
          go_wp2_with (at_builtin; refine wpList_appR (.tmp 31) (.tmp 32) 22 w.heap.size 5 _ 1 1 _ 0 (by8 []) w.heap.size A n c (by8 xs) Try.underlying22 byteInfo rfl (by decide) rfl rfl rfl rfl HOx.out (HR.out.below hbr (Nat.le_refl _)) (one_ints _ _) (by omega) (by omega) hsz ?_; intro v1 w2 hown1 hg1 hb2)
          exact ⟨⟨1, by omega, by go_num, by simpa using hown1, hbr.trans hb2⟩, by simp [intOf]⟩
        · have HOx := Lib.hid (show wr.ownsRow w.heap.size 5 1 _ n (by8 xs) from HO.out)
          go_wp2_with (at_builtin; refine wpList_appR (.tmp 31) (.tmp 32) 22 w.heap.size 5 _ 1 1 _ n (by8 xs) w.heap.size A2 m c2 (by8 ys) Try.underlying22 byteInfo rfl (by decide) rfl rfl rfl rfl HOx.out (HR2.out.below hbr (Nat.le_refl _)) (one_ints _ _) (by omega) (by omega) hsz ?_; intro v1 w2 hown1 hg1 hb2)
          exact ⟨⟨2, by omega, by go_num, by simpa using hown1, hbr.trans hb2⟩, by simp [intOf]⟩
        · have HOx := Lib.hid (show wr.ownsRow w.heap.size 5 1 _ (n + m) (by8 (xs ++ ys)) from HO.out)
          go_wp2
          go_ret
          exact ⟨_, rfl, by rw [← HNM.out]; exact HOx.out, hbr⟩

/-- The bytes of a checksum. -/
def crcB (xs : List Int) : List Int := [crcL xs % 256, crcL xs / 256]
theorem u8_wrap (z : Int) : IntKind.u8.wrap z = z % 256 := by simp [IntKind.wrap, IntKind.bits, IntKind.signed]
set_option maxRecDepth 100000 in
set_option maxHeartbeats 400000 in
theorem crcAppend_any (xs : List Int) (A : Option Addr) (n c : Nat) (w : World) (hr : Rd w w.heap.size 1 A n (by8 xs)) (hx : ∀ x ∈ xs, 0 ≤ x ∧ x ≤ 255) (hn : 1 ≤ n) (hn2 : n ≤ 900) :
    Calls Try.prog 24 #[.slice A n c] w fun e w' => ∃ v, e = .returned v ∧ w'.ownsRow w.heap.size 5 1 v (n + 2) (by8 (xs ++ crcB xs)) ∧ Below w.heap.size w w' := by
  have HS := Lib.hid (fun (W : World) (h : Rd W w.heap.size 1 A n (by8 xs)) => crcSum_any xs A n c w.heap.size W h hx (by omega))
  obtain ⟨z, hz⟩ : ∃ z, crcL xs = z := ⟨_, rfl⟩
  have hzb := crcL_bd xs
  rw [hz] at hzb HS
  have e1 : IntKind.u8.wrap z = z % 256 := u8_wrap z
  have e2 : IntKind.u8.wrap (z / 256) = z / 256 := by rw [u8_wrap]; omega
  have e3 : IntKind.u16.wrap (z / 256) = z / 256 := by rw [show IntKind.u16.wrap (z / 256) = z / 256 % 65536 by simp [IntKind.wrap, IntKind.bits, IntKind.signed]]; omega
  obtain ⟨lo, hlo⟩ : ∃ lo, z % 256 = lo := ⟨_, rfl⟩
  obtain ⟨hi, hhi⟩ : ∃ hi, z / 256 = hi := ⟨_, rfl⟩
  have hcb : crcB xs = [lo, hi] := by rw [crcB, hz, hlo, hhi]
  have e4 : hi % 256 = hi := by omega
  have HCB := Lib.hid hcb
  have HR := Lib.hid hr
  have hW : ∀ W1 W2 : World, w.alloc (.cells #[.int .u8 lo, .int .u8 hi] 5) = W1 → W1.alloc (.cells #[.slice A n c, .slice (some ⟨w.heap.size, 0, none⟩) 2 2] 22) = W2 → Calls Try.prog 49 #[.slice (some ⟨W1.heap.size, 0, none⟩) 2 2] W2 fun e w' => ∃ v, e = .returned v ∧ w'.ownsRow w.heap.size 5 1 v (n + 2) (by8 (xs ++ [lo, hi])) ∧ Below w.heap.size w w' := by
    intro W1 W2 h1 h2
    have hb1 : Below w.heap.size w W1 := h1 ▸ (Below.refl _ _).alloc (Nat.le_refl _) _
    have hb2 : Below W1.heap.size W1 W2 := h2 ▸ (Below.refl _ _).alloc (Nat.le_refl _) _
    have hbx : Box W2 W1.heap.size #[.slice A n c, .slice (some ⟨w.heap.size, 0, none⟩) 2 2] := h2 ▸ Box.alloc_
    have hl : Rd W1 W1.heap.size 1 (some ⟨w.heap.size, 0, none⟩) 2 (by8 [lo, hi]) := by
      subst h1
      exact Rd.lit (cs := #[.int .u8 lo, .int .u8 hi]) rfl (by simp)
    have hb02 := ext_trans hb1 hb2
    have k0 : W2.cell? ⟨W1.heap.size, 0, none⟩ = some (.slice A n c) := by rw [hbx.1 0]; rfl
    have k1 : W2.cell? ⟨W1.heap.size, 1, none⟩ = some (.slice (some ⟨w.heap.size, 0, none⟩) 2 2) := by rw [hbx.1 1]; rfl
    obtain ⟨gb, hgb⟩ : ∃ g, W1.heap.size = g := ⟨_, rfl⟩
    have hgl := hbx.2.2
    have q1 : Rd W2 W2.heap.size 1 A n (by8 xs) := (hr.below hb02 (Nat.le_refl _)).more hb02.size
    have q2 : Rd W2 W2.heap.size 1 (some ⟨w.heap.size, 0, none⟩) 2 (by8 [lo, hi]) := (hl.below hb2 (Nat.le_refl _)).more hb2.size
    rw [hgb] at k0 k1 hgl ⊢
    obtain ⟨A2, hA2⟩ : ∃ A2 : Option Addr, some ⟨w.heap.size, 0, none⟩ = A2 := ⟨_, rfl⟩
    rw [hA2] at k1 q2
    refine (concat_two gb 2 A A2 n c 2 2 xs [lo, hi] W2 k0 k1 hgl q1 q2 hn (by omega) (by omega)).mono ?_
    rintro e w' ⟨v, rfl, ho, hb⟩
    exact ⟨v, rfl, own_mono ho hb02.size, ext_trans hb02 hb⟩
  have hW3 : Calls Try.prog 49 #[.slice (some ⟨w.heap.size + 1, 0, none⟩) 2 2] ((w.alloc (.cells #[.int .u8 lo, .int .u8 hi] 5)).alloc (.cells #[.slice A n c, .slice (some ⟨w.heap.size, 0, none⟩) 2 2] 22)) fun e w' => ∃ v, e = .returned v ∧ w'.ownsRow w.heap.size 5 1 v (n + 2) (by8 (xs ++ [lo, hi])) ∧ Below w.heap.size w w' := by
    have h := hW _ _ rfl rfl
    rw [World.size_alloc] at h
    exact h
  have HW := Lib.hid hW3
  clear hr hx hz hcb hW hW3 hzb
  go_enter Try.func24, Try.ntmps24
  go_wp2_with fail
  refine (HS.out _ HR.out).mono ?_
  rintro e w' ⟨rfl, rfl⟩
  go_wp2_with fail
  refine HW.out.mono ?_
  rintro e w' ⟨v, rfl, ho, hb⟩
  go_wp2
  go_ret
  exact ⟨v, rfl, by rw [HCB.out]; exact ho, hb⟩
set_option maxHeartbeats 2000000 in
/-- Check of bytes that end with their checksum. -/
theorem crcCheck_yes (xs : List Int) (A : Option Addr) (n c : Nat) (w : World) (hr : Rd w w.heap.size 1 A (n + 2) (by8 (xs ++ crcB xs))) (hx : ∀ x ∈ xs, 0 ≤ x ∧ x ≤ 255) (hn : xs.length = n) (hn2 : n ≤ 900) (hc : n + 2 ≤ c) (hcm : c ≤ maxLen) :
    Calls Try.prog 34 #[.slice A (n + 2) c] w fun e w' => e = .returned (.bool true) ∧ w = w' := by
  have hr0 : Rd w w.heap.size 1 A n (by8 xs) := by
    have h := hr.take (k := n) (by omega)
    rw [Nat.mul_one, by8, ← List.map_take, List.take_left' hn] at h
    exact h
  have HS := Lib.hid (crcSum_any xs A n c w.heap.size w hr0 hx (by omega))
  obtain ⟨b, off, rfl, hb, h0, z0⟩ := by_at hr n (by omega)
  obtain ⟨b', off', e', _, h1, z1⟩ := by_at hr (n + 1) (by omega)
  injection e' with e'
  injection e' with e1 e2
  subst e1 e2
  have hzb := crcL_bd xs
  obtain ⟨z, hz⟩ : ∃ z, crcL xs = z := ⟨_, rfl⟩
  have g0 : (xs ++ crcB xs)[n] = z % 256 := by
    rw [List.getElem_append_right (by omega)]; simp [crcB, hn, hz]
  have g1 : (xs ++ crcB xs)[n + 1] = z / 256 := by
    rw [List.getElem_append_right (by omega)]; simp [crcB, hn, hz]
  rw [g0] at z0
  rw [g1] at z1
  rw [hz] at HS hzb
  have e1 : IntKind.u8.wrap z = z % 256 := u8_wrap z
  have e2 : IntKind.u8.wrap (z / 256) = z / 256 := by rw [u8_wrap]; omega
  have e3 : IntKind.u16.wrap (z / 256) = z / 256 := by rw [show IntKind.u16.wrap (z / 256) = z / 256 % 65536 by simp [IntKind.wrap, IntKind.bits, IntKind.signed]]; omega
  have e4 : z / 256 % 256 = z / 256 := by omega
  have f1 : IntKind.i64.wrap ((n : Int) + 2 - 2) = (n : Int) := by rw [IntWalk.i64_in _ ⟨by omega, by omega⟩]; omega
  have hnc : n ≤ c := by omega
  have hc63 : c ≤ 9223372036854775807 := by unfold maxLen at hcm; omega
  clear hr hx hn hr0 h0 h1 g0 g1 hz hcm
  go_enter Try.func34, Try.ntmps34
  go_wp2_with fail
  refine HS.out.mono ?_
  rintro e w' ⟨rfl, rfl⟩
  go_wp2
  go_ret
  exact ⟨rfl, rfl⟩

theorem apossible_any (u : Int) (w : World) : Calls Try.prog 23 #[.int .i64 u] w fun e w' => e = .returned (.bool (decide (1 ≤ u ∧ u ≤ 247))) ∧ w = w' := by
  go_enter Try.func23, Try.ntmps23
  go_wp2
  all_goals (go_ret; simp_all; try omega)
/-- A frame: unit, PDU, checksum. -/
def frameL (u : Int) (xs : List Int) : List Int := (u :: xs) ++ crcB (u :: xs)
theorem frameL_len (u : Int) (xs : List Int) : (frameL u xs).length = xs.length + 3 := by simp [frameL, crcB]
theorem crcB_bd (xs : List Int) : ∀ x ∈ crcB xs, 0 ≤ x ∧ x ≤ 255 := by
  have h := crcL_bd xs
  intro x hx
  simp only [crcB, List.mem_cons, List.not_mem_nil, or_false] at hx
  rcases hx with rfl | rfl <;> omega
theorem frameL_bd (u : Int) (xs : List Int) (hu : 0 ≤ u ∧ u ≤ 255) (hx : ∀ x ∈ xs, 0 ≤ x ∧ x ≤ 255) : ∀ x ∈ frameL u xs, 0 ≤ x ∧ x ≤ 255 := by
  intro x h
  rw [frameL, List.mem_append, List.mem_cons] at h
  rcases h with (rfl | h) | h
  · exact hu
  · exact hx x h
  · exact crcB_bd _ x h
set_option maxRecDepth 100000 in
set_option maxHeartbeats 2000000 in
theorem aduBuild_any (u : Int) (xs : List Int) (A : Option Addr) (n c : Nat) (w : World) (hu : 1 ≤ u ∧ u ≤ 247) (hr : Rd w w.heap.size 1 A n (by8 xs)) (hx : ∀ x ∈ xs, 0 ≤ x ∧ x ≤ 255) (hn : 1 ≤ n) (hn2 : n ≤ 253) :
    Calls Try.prog 9 #[.int .i64 u, .slice A n c] w fun e w' => ∃ v, e = .returned (.tuple #[v, .int .i64 0]) ∧ w'.ownsRow w.heap.size 5 1 v (n + 3) (by8 (frameL u xs)) ∧ Below w.heap.size w w' := by
  have HP := Lib.hid (fun W => (decide_eq_true hu) ▸ apossible_any u W)
  have e1 : IntKind.u8.wrap u = u := by rw [u8_wrap]; omega
  have d1 : decide ((n : Int) < 1) = false := by simp; omega
  have d2 : decide (n < 1) = false := by simp; omega
  have d3 : decide ((253 : Int) < (n : Int)) = false := by simp; omega
  have d4 : decide (253 < n) = false := by simp; omega
  have HR := Lib.hid hr
  have HA := Lib.hid (fun (W : World) (v : Value) (c' : Nat) (A' : Option Addr) (hb : Below w.heap.size w W) (hr : Rd W W.heap.size 1 A' (1 + n) (by8 (u :: xs))) => crcAppend_any (u :: xs) A' (1 + n) c' W hr (fun x h => by
    rcases List.mem_cons.1 h with rfl | h
    · omega
    · exact hx x h) (by omega) (by omega))
  clear hr hx hu
  go_enter Try.func9, Try.ntmps9
  go_wp2_with fail
  refine (HP.out _).mono ?_
  rintro e w' ⟨rfl, rfl⟩
  go_upto_region 5 with fail
  go_wp2_with (at_builtin; refine wpList_appR (.tmp 21) (.tmp 22) 22 w.heap.size 5 _ 1 1 _ 1 (by8 [u]) w.heap.size A n c (by8 xs) Try.underlying22 byteInfo rfl (by decide) rfl rfl rfl rfl (World.ownsRow_lit _ _ 1 (Nat.le_refl _) (by simp [maxLen]) rfl) (HR.out.below ((Below.refl _ _).alloc (Nat.le_refl _) _) (Nat.le_refl _)) (one_ints _ _) (by omega) (by omega) (by simp) ?_; intro v1 w2 hown1 hg1 hb2; obtain ⟨A1, c1, hv1, _, hR1⟩ := own_form hown1; subst hv1; have HB2 := Lib.hid (((Below.refl _ w).alloc (Nat.le_refl _) _).trans hb2); have HR1 := Lib.hid (show Rd w2 w2.heap.size 1 A1 (1 + n) (by8 (u :: xs)) from hR1); clear hown1 hg1 hb2 hR1)
  refine (HA.out _ (.slice A1 (1 + n) c1) c1 A1 HB2.out HR1.out).mono ?_
  rintro e w3 ⟨v, rfl, ho, hb3⟩
  go_wp2
  go_ret2
  refine ⟨v, rfl, ?_, ext_trans HB2.out hb3⟩
  have h := own_mono ho HB2.out.size
  rw [show n + 3 = 1 + n + 2 by omega]
  exact h

theorem Rd.mid {w : World} {B n : Nat} {A : Option Addr} {xs : List Int} (h : Rd w B 1 A n (by8 xs)) (i k : Nat) (hk : i + k ≤ n) (b off : Nat) (hA : A = some ⟨b, off, none⟩) : Rd w B 1 (some ⟨b, off + i, none⟩) k (by8 ((xs.drop i).take k)) := by
  have hl : xs.length = n := by have := h.1; simpa using this
  refine ⟨by simp; omega, fun h0 => ?_⟩
  obtain ⟨b', off', e, hb, hc⟩ := h.2 (by omega)
  rw [hA] at e
  injection e with e
  injection e with e1 e2
  subst e1 e2
  refine ⟨b, off + i, rfl, hb, fun j v hv => ?_⟩
  have hj : j < k := by
    rcases Nat.lt_or_ge j k with h | h
    · exact h
    · simp only [by8, List.map_take, List.getElem?_take] at hv
      rw [if_neg (by omega)] at hv; cases hv
  have hv2 : (by8 xs)[i + j]? = some v := by
    simp only [by8, List.map_take, List.map_drop, List.getElem?_take, if_pos hj, List.getElem?_drop] at hv
    exact hv
  have := hc (i + j) v hv2
  rwa [← Nat.add_assoc] at this
set_option maxRecDepth 100000 in
set_option maxHeartbeats 2000000 in
theorem aduSplit_yes (u : Int) (xs : List Int) (A : Option Addr) (n c : Nat) (w : World) (hu : 1 ≤ u ∧ u ≤ 247) (hr : Rd w w.heap.size 1 A (n + 3) (by8 (frameL u xs))) (hx : ∀ x ∈ xs, 0 ≤ x ∧ x ≤ 255) (hl : xs.length = n) (hn : 1 ≤ n) (hn2 : n ≤ 253) (hc : n + 3 ≤ c) (hcm : c ≤ maxLen) :
    Calls Try.prog 14 #[.slice A (n + 3) c] w fun e w' => ∃ v, e = .returned (.tuple #[.int .i64 u, v, .int .i64 0]) ∧ w'.ownsRow w.heap.size 5 1 v n (by8 xs) ∧ Below w.heap.size w w' := by
  have HP := Lib.hid (fun W => (decide_eq_true hu) ▸ apossible_any u W)
  have hbd : ∀ x ∈ u :: xs, 0 ≤ x ∧ x ≤ 255 := fun x h => by
    rcases List.mem_cons.1 h with rfl | h
    · omega
    · exact hx x h
  have HC := Lib.hid (crcCheck_yes (u :: xs) A (n + 1) c w (by rw [show n + 1 + 2 = n + 3 by omega]; exact hr) hbd (by simp [hl]) (by omega) (by omega) hcm)
  obtain ⟨b, off, rfl, hb, h0, z0⟩ := by_at hr 0 (by omega)
  have g0 : (frameL u xs)[0] = u := rfl
  rw [g0, Nat.add_zero] at z0
  have hmid := hr.mid 1 n (by omega) b off rfl
  have hm2 : ((frameL u xs).drop 1).take n = xs := by
    rw [frameL, List.cons_append, List.drop_one, List.tail_cons, List.take_left' hl]
  rw [hm2] at hmid
  have HCL := Lib.hid (fun (W : World) (h : Below w.heap.size w W) => clone_any (some ⟨b, off + 1, none⟩) n (c - 1) w.heap.size xs W (hmid.below h (Nat.le_refl _)) (by omega))
  have d1 : decide (((n : Int) + 3) < 4) = false := by simp; omega
  have d2 : decide (n + 3 < 4) = false := by simp; omega
  have d3 : decide ((256 : Int) < (n : Int) + 3) = false := by simp; omega
  have d4 : decide (256 < n + 3) = false := by simp; omega
  have f1 : IntKind.i64.wrap ((n : Int) + 3 - 2) = (n : Int) + 1 := by rw [IntWalk.i64_in _ ⟨by omega, by omega⟩]; omega
  have e1 : IntKind.i64.wrap u = u := IntWalk.i64_in _ ⟨by omega, by omega⟩
  have hc63 : c ≤ 9223372036854775807 := by unfold maxLen at hcm; omega
  clear hr hx hu hl h0 g0 hmid hm2 hbd hcm
  go_enter Try.func14, Try.ntmps14
  go_wp2_with fail
  refine HC.out.mono ?_
  rintro e w' ⟨rfl, rfl⟩
  go_wp2_with fail
  refine (HP.out _).mono ?_
  rintro e w' ⟨rfl, rfl⟩
  go_upto_region 7 with fail
  have hcc : c ≠ 1 := by omega
  have hcc2 : ¬ (c = 1) := by omega
  have hnc : n + 1 ≤ c := by omega
  have h1n : 1 ≤ n + 1 := by omega
  have k1 : (0 : Int) < (n : Int) + 3 := by omega
  have k2 : (0 : Int) ≤ (n : Int) + 1 := by omega
  have k3 : (n : Int) + 1 ≤ (c : Int) := by omega
  have k4 : (1 : Int) ≤ (n : Int) + 1 := by omega
  have hS : w.drew.cell? ⟨b, off, none⟩ = some (.int .u8 u) ∧ True ∧ True := ⟨z0, trivial, trivial⟩
  refine rgs_start (fun w' => w'.cell? ⟨b, off, none⟩ = some (.int .u8 u) ∧ True ∧ True) (by kernel_rfl) ?_
  refine rgs_t (v := ?_) (some 25) 0 (by kernel_rfl) rfl rfl (by assumption) (.inl ⟨by rfl, fun w' hw => ?_⟩) ?_
  rotate_left
  · obtain ⟨q1, q2, q3⟩ := hw; go_simp <;> with_reducible rfl
  try simp only [Act.put, List.setIfInBounds_toArray, List.set_cons_zero, List.set_cons_succ]
  refine rgs_t (v := ?_) (some 26) 1 (by kernel_rfl) rfl rfl (by assumption) (.inl ⟨by rfl, fun w' hw => ?_⟩) ?_
  rotate_left
  · obtain ⟨q1, q2, q3⟩ := hw; go_simp <;> with_reducible rfl
  try simp only [Act.put, List.setIfInBounds_toArray, List.set_cons_zero, List.set_cons_succ]
  refine rgs_t (v := ?_) (some 27) 2 (by kernel_rfl) rfl rfl (by assumption) (.inl ⟨by rfl, fun w' hw => ?_⟩) ?_
  rotate_left
  · obtain ⟨q1, q2, q3⟩ := hw; go_simp <;> with_reducible rfl
  try simp only [Act.put, List.setIfInBounds_toArray, List.set_cons_zero, List.set_cons_succ]
  refine rgs_t (v := ?_) (some 28) 3 (by kernel_rfl) rfl rfl (by assumption) (.inl ⟨by rfl, fun w' hw => ?_⟩) ?_
  rotate_left
  · obtain ⟨q1, q2, q3⟩ := hw; go_simp <;> with_reducible rfl
  try simp only [Act.put, List.setIfInBounds_toArray, List.set_cons_zero, List.set_cons_succ]
  refine rgs_t (v := ?_) (some 29) 4 (by kernel_rfl) rfl rfl (by assumption) (.inl ⟨by rfl, fun w' hw => ?_⟩) ?_
  rotate_left
  · obtain ⟨q1, q2, q3⟩ := hw; go_simp <;> with_reducible rfl
  try simp only [Act.put, List.setIfInBounds_toArray, List.set_cons_zero, List.set_cons_succ]
  refine rgs_t (v := ?_) (some 30) 5 (by kernel_rfl) rfl rfl (by assumption) (.inl ⟨by rfl, fun w' hw => ?_⟩) ?_
  rotate_left
  · obtain ⟨q1, q2, q3⟩ := hw; go_simp <;> with_reducible rfl
  try simp only [Act.put, List.setIfInBounds_toArray, List.set_cons_zero, List.set_cons_succ]
  refine rgs_t (v := ?_) (some 31) 6 (by kernel_rfl) rfl rfl (by assumption) (.inl ⟨by rfl, fun w' hw => ?_⟩) ?_
  rotate_left
  · obtain ⟨q1, q2, q3⟩ := hw; go_simp <;> with_reducible rfl
  try simp only [Act.put, List.setIfInBounds_toArray, List.set_cons_zero, List.set_cons_succ]
  refine rgs_t (v := ?_) (some 32) 7 (by kernel_rfl) rfl rfl (by assumption) (.inl ⟨by rfl, fun w' hw => ?_⟩) ?_
  rotate_left
  · obtain ⟨q1, q2, q3⟩ := hw; go_simp <;> with_reducible rfl
  try simp only [Act.put, List.setIfInBounds_toArray, List.set_cons_zero, List.set_cons_succ]
  refine rgs_t (v := ?_) (some 33) 8 (by kernel_rfl) rfl rfl (by assumption) (.inl ⟨by rfl, fun w' hw => ?_⟩) ?_
  rotate_left
  · obtain ⟨q1, q2, q3⟩ := hw; go_simp <;> with_reducible rfl
  try simp only [Act.put, List.setIfInBounds_toArray, List.set_cons_zero, List.set_cons_succ]
  refine rgs_c 9 (by kernel_rfl) rfl (by rfl) (fun K hK => ?_)
  go_simp
  refine (HCL.out _ (below_drew (Below.refl _ _))).mono ?_
  rintro e w3 ⟨v, rfl, ho, hb3⟩
  have HO := Lib.hid ho
  have HB3 := Lib.hid (show Below w.heap.size w w3 from (below_drew (Below.refl _ _)).trans hb3)
  have hS1 : w3.cell? ⟨b, off, none⟩ = some (.int .u8 u) ∧ True ∧ True := ⟨(HB3.out.cell (p := ⟨b, off, none⟩) hb).trans z0, trivial, trivial⟩
  refine hK _ _ hS1 ?_
  clear hK K
  try simp only [Act.put, List.setIfInBounds_toArray, List.set_cons_zero, List.set_cons_succ]
  refine rgs_t (v := ?_) (some 2) 10 (by kernel_rfl) rfl rfl (by assumption) (.inl ⟨by rfl, fun w' hw => ?_⟩) ?_
  rotate_left
  · obtain ⟨q1, q2, q3⟩ := hw; go_simp <;> with_reducible rfl
  try simp only [Act.put, List.setIfInBounds_toArray, List.set_cons_zero, List.set_cons_succ]
  refine rgs_t (v := ?_) (some 3) 11 (by kernel_rfl) rfl rfl (by assumption) (.inl ⟨by rfl, fun w' hw => ?_⟩) ?_
  rotate_left
  · obtain ⟨q1, q2, q3⟩ := hw; go_simp <;> with_reducible rfl
  try simp only [Act.put, List.setIfInBounds_toArray, List.set_cons_zero, List.set_cons_succ]
  refine rgs_t (v := ?_) (some 4) 12 (by kernel_rfl) rfl rfl (by assumption) (.inl ⟨by rfl, fun w' hw => ?_⟩) ?_
  rotate_left
  · obtain ⟨q1, q2, q3⟩ := hw; go_simp <;> with_reducible rfl
  try simp only [Act.put, List.setIfInBounds_toArray, List.set_cons_zero, List.set_cons_succ]
  refine rgs_d (by kernel_rfl) ?_
  go_wp2
  exact bodyPost_ret (v := .tuple #[.int .i64 u, v, .int .i64 0]) (by simp [results, Try.results14, go_sem]) rfl ⟨v, rfl, HO.out, HB3.out⟩
end Go.Proofs.Ytoliplochipoeaa

/- Layer 10: contracts of Limit and Valid, the program's and the reference's. -/
set_option linter.unusedVariables false
set_option linter.unusedSimpArgs false
namespace Go.Proofs.Ytoliplochipoeaa
open Go.RowKit

def limZ (f : Int) : Int := if f = 1 ∨ f = 2 then 2000 else if f = 3 ∨ f = 4 then 125 else 0
abbrev qv (f a n c o : Int) : Value := .agg #[.int .i64 f, .int .i64 a, .int .i64 n, .int .i64 c, .int .i64 o]
def vq (f a n c o : Int) : Bool :=
  decide ((1 ≤ f ∧ f ≤ 4 ∧ 0 ≤ a ∧ 1 ≤ n ∧ n ≤ limZ f ∧ a ≤ 65536 - n ∧ c = 0 ∧ o = 0) ∨ (f = 17 ∧ a = 0 ∧ n = 0 ∧ c = 0 ∧ o = 0) ∨ (f = 43 ∧ 1 ≤ c ∧ c ≤ 3 ∧ 0 ≤ o ∧ o ≤ 255 ∧ a = 0 ∧ n = 0))

theorem lim_any (f : Int) (w : World) : Calls Try.prog 38 #[.int .i64 f] w fun e w' => e = .returned (.int .i64 (limZ f)) ∧ w = w' := by
  rcases (show f = 1 ∨ f = 2 ∨ f = 3 ∨ f = 4 ∨ (f ≠ 1 ∧ f ≠ 2 ∧ f ≠ 3 ∧ f ≠ 4) by omega) with rfl | rfl | rfl | rfl | ⟨h1, h2, h3, h4⟩
  case inr.inr.inr.inr =>
    have hz : limZ f = 0 := by rw [limZ, if_neg (by omega), if_neg (by omega)]
    rw [hz]
    clear hz
    go_enter Try.func38, Try.ntmps38
    go_wp2
    go_ret
    exact ⟨rfl, rfl⟩
  all_goals
    go_enter Try.func38, Try.ntmps38
    go_wp2
    go_ret
    exact ⟨rfl, rfl⟩
theorem rlim_any (f : Int) (w : World) : Calls Try.prog 21 #[.int .i64 f] w fun e w' => e = .returned (.int .i64 (limZ f)) ∧ w = w' := by
  rcases (show f = 1 ∨ f = 2 ∨ f = 3 ∨ f = 4 ∨ (f ≠ 1 ∧ f ≠ 2 ∧ f ≠ 3 ∧ f ≠ 4) by omega) with rfl | rfl | rfl | rfl | ⟨h1, h2, h3, h4⟩
  case inr.inr.inr.inr =>
    have hz : limZ f = 0 := by rw [limZ, if_neg (by omega), if_neg (by omega)]
    rw [hz]
    clear hz
    go_enter Try.func21, Try.ntmps21
    go_wp2
    go_ret
    exact ⟨rfl, rfl⟩
  all_goals
    go_enter Try.func21, Try.ntmps21
    go_wp2
    go_ret
    exact ⟨rfl, rfl⟩
def tabB (f : Int) : Bool := decide (1 ≤ f ∧ f ≤ 4)
theorem istab_any (f : Int) (w : World) : Calls Try.prog 37 #[.int .i64 f] w fun e w' => e = .returned (.bool (tabB f)) ∧ w = w' := by
  rcases (show f < 1 ∨ (1 ≤ f ∧ 4 < f) ∨ (1 ≤ f ∧ f ≤ 4) by omega) with h | ⟨h0, h⟩ | ⟨h0, h⟩
  · have hg : decide (1 ≤ f) = false := by simp; omega
    have hz : tabB f = false := by simp [tabB]; omega
    rw [hz]; clear hz
    go_enter Try.func37, Try.ntmps37
    go_wp2
    go_ret
    exact ⟨rfl, rfl⟩
  · have hg : decide (f ≤ 4) = false := by simp; omega
    have hz : tabB f = false := by simp [tabB]; omega
    rw [hz]; clear hz
    go_enter Try.func37, Try.ntmps37
    go_wp2
    go_ret
    exact ⟨rfl, rfl⟩
  · have hz : tabB f = true := by simp [tabB]; omega
    rw [hz]; clear hz
    go_enter Try.func37, Try.ntmps37
    go_wp2
    go_ret
    exact ⟨rfl, rfl⟩
end Go.Proofs.Ytoliplochipoeaa

/- Layer 10: contracts of Valid, the program's and the reference's. -/
set_option linter.unusedVariables false
set_option linter.unusedSimpArgs false
namespace Go.Proofs.Ytoliplochipoeaa
open Go.RowKit

set_option maxRecDepth 100000 in
set_option maxHeartbeats 2000000 in
theorem qvalid_any (f a n c o : Int) (w : World) : Calls Try.prog 22 #[qv f a n c o] w fun e w' => e = .returned (.bool (vq f a n c o)) ∧ Below w.heap.size w w' := by
  have hB : Below w.heap.size w (w.alloc (.cells #[.int .i64 f, .int .i64 a, .int .i64 n, .int .i64 c, .int .i64 o] 29)) := (Below.refl _ _).alloc (Nat.le_refl _) _
  rcases (show (1 ≤ f ∧ f ≤ 4) ∨ f = 17 ∨ f = 43 ∨ (¬ (1 ≤ f ∧ f ≤ 4) ∧ f ≠ 17 ∧ f ≠ 43) by omega) with ⟨f1, f4⟩ | rfl | rfl | ⟨hf, f17, f43⟩
  · obtain ⟨m, hm⟩ : ∃ m, limZ f = m := ⟨_, rfl⟩
    have hmb : 125 ≤ m ∧ m ≤ 2000 := by rcases (show f = 1 ∨ f = 2 ∨ f = 3 ∨ f = 4 by omega) with rfl | rfl | rfl | rfl <;> subst hm <;> decide
    have hl : ∀ w, Calls Try.prog 38 #[.int .i64 f] w fun e w' => e = .returned (.int .i64 m) ∧ w = w' := fun w => hm ▸ lim_any f w
    have ht : ∀ w, Calls Try.prog 37 #[.int .i64 f] w fun e w' => e = .returned (.bool true) ∧ w = w' := fun w => by
      have := istab_any f w
      rw [show tabB f = true by simp [tabB]; omega] at this
      exact this
    have HT := Lib.hid ht; clear ht
    have HL := Lib.hid hl; clear hl
    have hz : vq f a n c o = decide (0 ≤ a ∧ 1 ≤ n ∧ n ≤ m ∧ a ≤ 65536 - n ∧ c = 0 ∧ o = 0) := by
      simp only [vq, hm]; apply decide_eq_decide.2; omega
    rw [hz]; clear hz hm
    rcases (show ((¬ 0 ≤ a)) ∨ ((0 ≤ a) ∧ (¬ 1 ≤ n)) ∨ ((0 ≤ a) ∧ (1 ≤ n) ∧ (¬ n ≤ m)) ∨ ((0 ≤ a) ∧ (1 ≤ n) ∧ (n ≤ m) ∧ (¬ a ≤ 65536 - n)) ∨ ((0 ≤ a) ∧ (1 ≤ n) ∧ (n ≤ m) ∧ (a ≤ 65536 - n) ∧ (¬ c = 0)) ∨ ((0 ≤ a) ∧ (1 ≤ n) ∧ (n ≤ m) ∧ (a ≤ 65536 - n) ∧ (c = 0) ∧ (¬ o = 0)) ∨ ((0 ≤ a) ∧ (1 ≤ n) ∧ (n ≤ m) ∧ (a ≤ 65536 - n) ∧ (c = 0) ∧ (o = 0)) by omega) with k | ⟨g0, k⟩ | ⟨g0, g1, k⟩ | ⟨g0, g1, g2, k⟩ | ⟨g0, g1, g2, g3, k⟩ | ⟨g0, g1, g2, g3, rfl, k⟩ | ⟨g0, g1, g2, g3, rfl, rfl⟩
    · skip
      rw [show decide (0 ≤ a ∧ 1 ≤ n ∧ n ≤ m ∧ a ≤ 65536 - n ∧ c = 0 ∧ o = 0) = false by simp; omega]
      have hg : decide (0 ≤ a) = false := by simp; omega
      go_enter Try.func22, Try.ntmps22
      go_wp2_with fail
      refine (HT.out _).mono ?_
      rintro e w' ⟨rfl, rfl⟩
      go_wp2
      go_quiet ((go_at_call 38; exact quiet_left (HL.out _)))
      go_wp2
      go_ret
      exact ⟨rfl, below_drewN hB _⟩
    · skip
      rw [show decide (0 ≤ a ∧ 1 ≤ n ∧ n ≤ m ∧ a ≤ 65536 - n ∧ c = 0 ∧ o = 0) = false by simp; omega]
      have hg : decide (1 ≤ n) = false := by simp; omega
      go_enter Try.func22, Try.ntmps22
      go_wp2_with fail
      refine (HT.out _).mono ?_
      rintro e w' ⟨rfl, rfl⟩
      go_wp2
      go_quiet ((go_at_call 38; exact quiet_left (HL.out _)))
      go_wp2
      go_ret
      exact ⟨rfl, below_drewN hB _⟩
    · skip
      rw [show decide (0 ≤ a ∧ 1 ≤ n ∧ n ≤ m ∧ a ≤ 65536 - n ∧ c = 0 ∧ o = 0) = false by simp; omega]
      have hg : decide (n ≤ m) = false := by simp; omega
      go_enter Try.func22, Try.ntmps22
      go_wp2_with fail
      refine (HT.out _).mono ?_
      rintro e w' ⟨rfl, rfl⟩
      go_wp2
      go_quiet ((go_at_call 38; exact quiet_left (HL.out _)))
      go_wp2
      go_ret
      exact ⟨rfl, below_drewN hB _⟩
    · skip
      rw [show decide (0 ≤ a ∧ 1 ≤ n ∧ n ≤ m ∧ a ≤ 65536 - n ∧ c = 0 ∧ o = 0) = false by simp; omega]
      have hg : decide (a ≤ 65536 - n) = false := by simp; omega
      go_enter Try.func22, Try.ntmps22
      go_wp2_with fail
      refine (HT.out _).mono ?_
      rintro e w' ⟨rfl, rfl⟩
      go_wp2
      go_quiet ((go_at_call 38; exact quiet_left (HL.out _)))
      go_wp2
      go_ret
      exact ⟨rfl, below_drewN hB _⟩
    · skip
      rw [show decide (0 ≤ a ∧ 1 ≤ n ∧ n ≤ m ∧ a ≤ 65536 - n ∧ c = 0 ∧ o = 0) = false by simp; omega]
      have hg : (c == 0) = false := by simp; omega
      go_enter Try.func22, Try.ntmps22
      go_wp2_with fail
      refine (HT.out _).mono ?_
      rintro e w' ⟨rfl, rfl⟩
      go_wp2
      go_quiet ((go_at_call 38; exact quiet_left (HL.out _)))
      go_wp2
      go_ret
      exact ⟨rfl, below_drewN hB _⟩
    · skip
      rw [show decide (0 ≤ a ∧ 1 ≤ n ∧ n ≤ m ∧ a ≤ 65536 - n ∧ (0 : Int) = 0 ∧ o = 0) = false by simp; omega]
      have hg : (o == 0) = false := by simp; omega
      go_enter Try.func22, Try.ntmps22
      go_wp2_with fail
      refine (HT.out _).mono ?_
      rintro e w' ⟨rfl, rfl⟩
      go_wp2
      go_quiet ((go_at_call 38; exact quiet_left (HL.out _)))
      go_wp2
      go_ret
      exact ⟨rfl, below_drewN hB _⟩
    · skip
      rw [show decide (0 ≤ a ∧ 1 ≤ n ∧ n ≤ m ∧ a ≤ 65536 - n ∧ (0 : Int) = 0 ∧ (0 : Int) = 0) = true by simp; omega]
      go_enter Try.func22, Try.ntmps22
      go_wp2_with fail
      refine (HT.out _).mono ?_
      rintro e w' ⟨rfl, rfl⟩
      go_wp2
      go_quiet ((go_at_call 38; exact quiet_left (HL.out _)))
      go_wp2
      go_ret
      exact ⟨rfl, below_drewN hB _⟩
  · have ht : ∀ w, Calls Try.prog 37 #[.int .i64 17] w fun e w' => e = .returned (.bool false) ∧ w = w' := fun w => istab_any 17 w
    have HT := Lib.hid ht; clear ht
    rcases (show ¬ a = 0 ∨ (a = 0 ∧ ¬ n = 0) ∨ (a = 0 ∧ n = 0 ∧ ¬ c = 0) ∨ (a = 0 ∧ n = 0 ∧ c = 0 ∧ ¬ o = 0) ∨ (a = 0 ∧ n = 0 ∧ c = 0 ∧ o = 0) by omega) with k | ⟨rfl, k⟩ | ⟨rfl, rfl, k⟩ | ⟨rfl, rfl, rfl, k⟩ | ⟨rfl, rfl, rfl, rfl⟩
    · rw [show vq 17 a n c o = false by simp [vq]; omega]
      go_enter Try.func22, Try.ntmps22
      go_wp2_with fail
      refine (HT.out _).mono ?_
      rintro e w' ⟨rfl, rfl⟩
      go_wp2
      go_ret
      exact ⟨rfl, hB⟩
    · rw [show vq 17 0 n c o = false by simp [vq]; omega]
      go_enter Try.func22, Try.ntmps22
      go_wp2_with fail
      refine (HT.out _).mono ?_
      rintro e w' ⟨rfl, rfl⟩
      go_wp2
      go_ret
      exact ⟨rfl, hB⟩
    · rw [show vq 17 0 0 c o = false by simp [vq]; omega]
      go_enter Try.func22, Try.ntmps22
      go_wp2_with fail
      refine (HT.out _).mono ?_
      rintro e w' ⟨rfl, rfl⟩
      go_wp2
      go_ret
      exact ⟨rfl, hB⟩
    · rw [show vq 17 0 0 0 o = false by simp [vq]; omega]
      go_enter Try.func22, Try.ntmps22
      go_wp2_with fail
      refine (HT.out _).mono ?_
      rintro e w' ⟨rfl, rfl⟩
      go_wp2
      go_ret
      exact ⟨rfl, hB⟩
    · rw [show vq 17 0 0 0 0 = true by decide]
      go_enter Try.func22, Try.ntmps22
      go_wp2_with fail
      refine (HT.out _).mono ?_
      rintro e w' ⟨rfl, rfl⟩
      go_wp2
      go_ret
      exact ⟨rfl, hB⟩
  · have ht : ∀ w, Calls Try.prog 37 #[.int .i64 43] w fun e w' => e = .returned (.bool false) ∧ w = w' := fun w => istab_any 43 w
    have HT := Lib.hid ht; clear ht
    have hz : vq 43 a n c o = decide (1 ≤ c ∧ c ≤ 3 ∧ 0 ≤ o ∧ o ≤ 255 ∧ a = 0 ∧ n = 0) := by
      simp only [vq]; apply decide_eq_decide.2
      constructor
      · rintro (⟨_, h, _⟩ | ⟨h, _⟩ | ⟨_, h1, h2, h3, h4, h5, h6⟩)
        · omega
        · omega
        · exact ⟨by omega, by omega, by omega, by omega, by omega, by omega⟩
      · rintro ⟨h1, h2, h3, h4, h5, h6⟩
        exact .inr (.inr ⟨by trivial, by omega, by omega, by omega, by omega, by omega, by omega⟩)
    rw [hz]; clear hz
    rcases (show ((¬ 1 ≤ c)) ∨ ((1 ≤ c) ∧ (¬ c ≤ 3)) ∨ ((1 ≤ c) ∧ (c ≤ 3) ∧ (¬ 0 ≤ o)) ∨ ((1 ≤ c) ∧ (c ≤ 3) ∧ (0 ≤ o) ∧ (¬ o ≤ 255)) ∨ ((1 ≤ c) ∧ (c ≤ 3) ∧ (0 ≤ o) ∧ (o ≤ 255) ∧ (¬ a = 0)) ∨ ((1 ≤ c) ∧ (c ≤ 3) ∧ (0 ≤ o) ∧ (o ≤ 255) ∧ (a = 0) ∧ (¬ n = 0)) ∨ ((1 ≤ c) ∧ (c ≤ 3) ∧ (0 ≤ o) ∧ (o ≤ 255) ∧ (a = 0) ∧ (n = 0)) by omega) with k | ⟨gc1, k⟩ | ⟨gc1, gc3, k⟩ | ⟨gc1, gc3, go0, k⟩ | ⟨gc1, gc3, go0, go255, k⟩ | ⟨gc1, gc3, go0, go255, rfl, k⟩ | ⟨gc1, gc3, go0, go255, rfl, rfl⟩
    · rw [show decide (1 ≤ c ∧ c ≤ 3 ∧ 0 ≤ o ∧ o ≤ 255 ∧ a = 0 ∧ n = 0) = false by simp; omega]
      have hg : decide (1 ≤ c) = false := by simp; omega
      go_enter Try.func22, Try.ntmps22
      go_wp2_with fail
      refine (HT.out _).mono ?_
      rintro e w' ⟨rfl, rfl⟩
      go_wp2
      go_ret
      exact ⟨rfl, hB⟩
    · rw [show decide (1 ≤ c ∧ c ≤ 3 ∧ 0 ≤ o ∧ o ≤ 255 ∧ a = 0 ∧ n = 0) = false by simp; omega]
      have hg : decide (c ≤ 3) = false := by simp; omega
      go_enter Try.func22, Try.ntmps22
      go_wp2_with fail
      refine (HT.out _).mono ?_
      rintro e w' ⟨rfl, rfl⟩
      go_wp2
      go_ret
      exact ⟨rfl, hB⟩
    · rw [show decide (1 ≤ c ∧ c ≤ 3 ∧ 0 ≤ o ∧ o ≤ 255 ∧ a = 0 ∧ n = 0) = false by simp; omega]
      have hg : decide (0 ≤ o) = false := by simp; omega
      go_enter Try.func22, Try.ntmps22
      go_wp2_with fail
      refine (HT.out _).mono ?_
      rintro e w' ⟨rfl, rfl⟩
      go_wp2
      go_ret
      exact ⟨rfl, hB⟩
    · rw [show decide (1 ≤ c ∧ c ≤ 3 ∧ 0 ≤ o ∧ o ≤ 255 ∧ a = 0 ∧ n = 0) = false by simp; omega]
      have hg : decide (o ≤ 255) = false := by simp; omega
      go_enter Try.func22, Try.ntmps22
      go_wp2_with fail
      refine (HT.out _).mono ?_
      rintro e w' ⟨rfl, rfl⟩
      go_wp2
      go_ret
      exact ⟨rfl, hB⟩
    · rw [show decide (1 ≤ c ∧ c ≤ 3 ∧ 0 ≤ o ∧ o ≤ 255 ∧ a = 0 ∧ n = 0) = false by simp; omega]
      have hg : (a == 0) = false := by simp; omega
      go_enter Try.func22, Try.ntmps22
      go_wp2_with fail
      refine (HT.out _).mono ?_
      rintro e w' ⟨rfl, rfl⟩
      go_wp2
      go_ret
      exact ⟨rfl, hB⟩
    · rw [show decide (1 ≤ c ∧ c ≤ 3 ∧ 0 ≤ o ∧ o ≤ 255 ∧ (0 : Int) = 0 ∧ n = 0) = false by simp; omega]
      have hg : (n == 0) = false := by simp; omega
      go_enter Try.func22, Try.ntmps22
      go_wp2_with fail
      refine (HT.out _).mono ?_
      rintro e w' ⟨rfl, rfl⟩
      go_wp2
      go_ret
      exact ⟨rfl, hB⟩
    · rw [show decide (1 ≤ c ∧ c ≤ 3 ∧ 0 ≤ o ∧ o ≤ 255 ∧ (0 : Int) = 0 ∧ (0 : Int) = 0) = true by simp; omega]
      go_enter Try.func22, Try.ntmps22
      go_wp2_with fail
      refine (HT.out _).mono ?_
      rintro e w' ⟨rfl, rfl⟩
      go_wp2
      go_ret
      exact ⟨rfl, hB⟩
  · rw [show vq f a n c o = false by simp [vq]; omega]
    have ht : ∀ w, Calls Try.prog 37 #[.int .i64 f] w fun e w' => e = .returned (.bool false) ∧ w = w' := fun w => by
      have := istab_any f w
      rw [show tabB f = false by simp [tabB]; omega] at this
      exact this
    have HT := Lib.hid ht; clear ht
    clear hf
    go_enter Try.func22, Try.ntmps22
    go_wp2_with fail
    refine (HT.out _).mono ?_
    rintro e w' ⟨rfl, rfl⟩
    go_wp2
    go_ret
    exact ⟨rfl, hB⟩

end Go.Proofs.Ytoliplochipoeaa


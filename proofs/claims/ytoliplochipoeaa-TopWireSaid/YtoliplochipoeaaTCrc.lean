/- Layer 8: package crc: Update, Extend, Sum. -/
import Derived.Test.YtoliplochipoeaaBytes
import Derived.Test.YtoliplochipoeaaLib3
import Derived.Test.YtoliplochipoeaaLib4
import Derived.Test.YtoliplochipoeaaBox
import Derived.IntWalk
set_option linter.unusedVariables false
set_option linter.unusedSimpArgs false
namespace Go.Proofs.Ytoliplochipoeaa
open Go.RowKit

/-- One of the eight rounds of Update. -/
def crcSt (c : Int) : Int := if (bits BinOp.and IntKind.u16 c 1 == 1) = true then bits BinOp.xor IntKind.u16 (c / 2) 40961 else c / 2
def crcN : Nat → Int → Int
  | 0, c => c
  | k + 1, c => crcSt (crcN k c)
def crcU (c b : Int) : Int := crcN 8 (bits BinOp.xor IntKind.u16 c b)
theorem bits_u16 (o : BinOp) (x y : Int) : 0 ≤ bits o IntKind.u16 x y ∧ bits o IntKind.u16 x y ≤ 65535 := by
  unfold bits
  have h : ∀ n : Int, 0 ≤ IntKind.u16.wrap n ∧ IntKind.u16.wrap n ≤ 65535 := fun n => by
    rw [show IntKind.u16.wrap n = n % 65536 by simp [IntKind.wrap, IntKind.bits, IntKind.signed]]; omega
  exact h _
theorem crcSt_bd (c : Int) (h : 0 ≤ c ∧ c ≤ 65535) : 0 ≤ crcSt c ∧ crcSt c ≤ 65535 := by
  unfold crcSt
  split
  · exact bits_u16 _ _ _
  · omega
theorem crcN_bd (k : Nat) (c : Int) (h : 0 ≤ c ∧ c ≤ 65535) : 0 ≤ crcN k c ∧ crcN k c ≤ 65535 := by
  induction k with
  | zero => exact h
  | succ k ih => exact crcSt_bd _ ih
theorem crcU_bd (c b : Int) : 0 ≤ crcU c b ∧ crcU c b ≤ 65535 := crcN_bd 8 _ (bits_u16 _ _ _)
/-- The checksum of bytes. -/
def crcL (l : List Int) : Int := l.foldl crcU 65535
theorem crcL_bd (l : List Int) : 0 ≤ crcL l ∧ crcL l ≤ 65535 := by
  have : ∀ (l : List Int) (a : Int), 0 ≤ a ∧ a ≤ 65535 → 0 ≤ l.foldl crcU a ∧ l.foldl crcU a ≤ 65535 := by
    intro l
    induction l with
    | nil => intro a h; exact h
    | cons x t ih => intro a _; exact ih _ (crcU_bd a x)
  exact this l 65535 (by omega)
set_option maxHeartbeats 1000000 in
theorem crcUpdate_any (c b : Int) (hc : 0 ≤ c ∧ c ≤ 65535) (hb : 0 ≤ b ∧ b ≤ 255) (w : World) :
    Calls Try.prog 78 #[.int .u16 c, .int .u8 b] w fun e w' => e = .returned (.int .u16 (crcU c b)) ∧ w = w' := by
  obtain ⟨r, hr⟩ : ∃ r, crcU c b = r := ⟨_, rfl⟩
  have HR := Lib.hid hr
  have e1 : IntKind.u16.wrap b = b := by rw [show IntKind.u16.wrap b = b % 65536 by simp [IntKind.wrap, IntKind.bits, IntKind.signed]]; omega
  rw [hr]
  clear hr
  obtain ⟨c0, hc0⟩ : ∃ z, bits BinOp.xor IntKind.u16 c b = z := ⟨_, rfl⟩
  have hb0 := bits_u16 BinOp.xor c b
  rw [hc0] at hb0
  have HC0 := Lib.hid hc0
  go_enter Try.func78, Try.ntmps78
  go_wp2_with fail
  try rw [hc0]
  clear hc0
  go_loop [0, 10] (fun x i => ∃ k : Nat, k ≤ 8 ∧ i = .int .i64 k ∧ x = .int .u16 (crcN k c0)) (fun _ i => 8 - (intOf i).toNat)
  case atStart => exact ⟨0, by omega, rfl, rfl⟩
  case round =>
    obtain ⟨k, hk, rfl, rfl⟩ := hrel
    have hbk := crcN_bd k c0 hb0
    by_cases hlt : k < 8
    · obtain ⟨x, hx⟩ : ∃ x, crcN k c0 = x := ⟨_, rfl⟩
      have hst : crcN (k + 1) c0 = crcSt x := by rw [crcN, hx]
      rw [hx] at hbk ⊢
      have HST := Lib.hid hst
      clear hst hx
      obtain ⟨t, ht⟩ : ∃ t, (bits BinOp.and IntKind.u16 x 1 == 1) = t := ⟨_, rfl⟩
      have hd : decide ((k : Int) < 8) = true := by simp; omega
      have hsx : crcSt x = if t = true then bits BinOp.xor IntKind.u16 (x / 2) 40961 else x / 2 := by rw [← ht]; rfl
      have HSX := Lib.hid hsx
      clear hsx
      cases t
      · go_wp2
        exact ⟨⟨k + 1, by omega, by go_num, by rw [HST.out, HSX.out]; rfl⟩, by simp [intOf]; omega⟩
      · go_wp2
        exact ⟨⟨k + 1, by omega, by go_num, by rw [HST.out, HSX.out]; rfl⟩, by simp [intOf]; omega⟩
    · obtain rfl : k = 8 := by omega
      have hfin : crcN 8 c0 = r := by rw [← HR.out, crcU, HC0.out]
      rw [hfin]
      go_wp2
      go_ret
      exact ⟨rfl, rfl⟩

/-- A byte of a row of bytes. -/
theorem by_at {w : World} {B n : Nat} {A : Option Addr} {xs : List Int} (h : Rd w B 1 A n (by8 xs)) (k : Nat) (hk : k < n) : ∃ b off, A = some ⟨b, off, none⟩ ∧ b < B ∧ ∃ hk : k < xs.length, w.cell? ⟨b, off + k, none⟩ = some (.int .u8 xs[k]) := by
  have hl : xs.length = n := by have := h.1; simpa using this
  obtain ⟨b, off, e, hb, hc⟩ := h.2 (by omega)
  exact ⟨b, off, e, hb, by omega, hc k _ (by simp [List.getElem?_eq_getElem (show k < xs.length by omega)])⟩
theorem foldl_take {β : Type} (f : β → Int → β) (a : β) (l : List Int) (k : Nat) (h : k < l.length) : (l.take (k + 1)).foldl f a = f ((l.take k).foldl f a) l[k] := by
  rw [List.take_succ_eq_append_getElem h, List.foldl_append]; rfl
theorem crcFold_bd (l : List Int) (a : Int) (h : 0 ≤ a ∧ a ≤ 65535) : 0 ≤ l.foldl crcU a ∧ l.foldl crcU a ≤ 65535 := by
  induction l generalizing a with
  | nil => exact h
  | cons x t ih => exact ih _ (crcU_bd a x)
set_option maxHeartbeats 1000000 in
theorem crcExtend_any (c : Int) (xs : List Int) (A : Option Addr) (n cap B : Nat) (w : World) (hc : 0 ≤ c ∧ c ≤ 65535) (hr : Rd w B 1 A n (by8 xs)) (hx : ∀ x ∈ xs, 0 ≤ x ∧ x ≤ 255) (hn : n ≤ 1000000) :
    Calls Try.prog 67 #[.int .u16 c, .slice A n cap] w fun e w' => e = .returned (.int .u16 (xs.foldl crcU c)) ∧ w = w' := by
  have hl : xs.length = n := by have := hr.1; simpa using this
  have HR := Lib.hid (hr.fits (by decide))
  have HX := Lib.hid hx
  have HL := Lib.hid hl
  have HC := Lib.hid hc
  clear hr hx hl hc
  go_enter Try.func67, Try.ntmps67
  go_wp2_with fail
  go_loopw [0, 6, 9] (fun x _ i wr => ∃ k : Nat, k ≤ n ∧ i = .int .i64 k ∧ x = .int .u16 ((xs.take k).foldl crcU c) ∧ w = wr) (fun _ _ i _ => n - (intOf i).toNat)
  case atStart => exact ⟨0, by omega, rfl, rfl, rfl⟩
  case round =>
    obtain ⟨k, hk, rfl, rfl, rfl⟩ := hrel
    have hbk := crcFold_bd (xs.take k) c HC.out
    by_cases hlt : k < n
    · obtain ⟨b, off, rfl, hb, hkl, z0⟩ := by_at HR.out k hlt
      have hf := foldl_take crcU c xs k hkl
      have hxk := HX.out xs[k] (List.getElem_mem _)
      obtain ⟨y, hy⟩ : ∃ y, xs[k] = y := ⟨_, rfl⟩
      obtain ⟨z, hz⟩ : ∃ z, (xs.take k).foldl crcU c = z := ⟨_, rfl⟩
      rw [hy] at z0 hf hxk
      rw [hz] at hf hbk ⊢
      have HF := Lib.hid hf
      have HU := Lib.hid (fun W => crcUpdate_any z y hbk hxk W)
      clear hf hy hz hbk hxk
      go_wp2_with fail
      refine (HU.out _).mono ?_
      rintro e w' ⟨rfl, rfl⟩
      go_wp2
      exact ⟨⟨k + 1, by omega, by go_num, by rw [HF.out], by trivial⟩, by simp [intOf]; omega⟩
    · obtain rfl : k = n := by omega
      rw [List.take_of_length_le (by rw [HL.out]; exact Nat.le_refl _)]
      go_wp2
      go_ret
      exact ⟨rfl, rfl⟩
theorem crcSum_any (xs : List Int) (A : Option Addr) (n cap B : Nat) (w : World) (hr : Rd w B 1 A n (by8 xs)) (hx : ∀ x ∈ xs, 0 ≤ x ∧ x ≤ 255) (hn : n ≤ 1000000) :
    Calls Try.prog 48 #[.slice A n cap] w fun e w' => e = .returned (.int .u16 (crcL xs)) ∧ w = w' := by
  have HE := Lib.hid (fun W (h : Rd W B 1 A n (by8 xs)) => crcExtend_any 65535 xs A n cap B W (by omega) h hx hn)
  have HR := Lib.hid hr
  clear hr hx
  go_enter Try.func48, Try.ntmps48
  go_wp2_with fail
  refine (HE.out _ HR.out).mono ?_
  rintro e w' ⟨rfl, rfl⟩
  go_wp2
  go_ret
  exact ⟨rfl, rfl⟩
end Go.Proofs.Ytoliplochipoeaa

/- RunsLong: its plain law. -/
import Derived.Test.YtjbbkhoonenfjaaStE
set_option linter.unusedVariables false
set_option linter.unusedSimpArgs false
namespace Go.Proofs.Ytjbbkhoonenfjaa
open Go.RowKit

theorem newLS_tot (n : Nat) (v : ByteArray) (h : n ≤ 65536) : tot (newLS n v) = n := by
  unfold newLS
  split
  · simp [tot]; omega
  · simp [tot]
theorem newLS_len (n : Nat) (v : ByteArray) (h : n ≤ 65536) : (newLS n v).length = if 0 < n then 1 else 0 := by
  unfold newLS
  by_cases h0 : 0 < n
  · rw [if_neg (by omega), if_pos h0]; rfl
  · rw [if_pos (by omega), if_neg h0]; rfl
theorem newLS_le (n : Nat) (v : ByteArray) : (newLS n v).length ≤ 1 := by
  unfold newLS; split <;> simp
theorem partL_newLS (q t : Nat) (v : ByteArray) (hq : q ≤ 65536) : partL (newLS q v) 0 t = newLS (min q t) v := by
  unfold newLS
  by_cases h0 : q = 0
  · subst h0; simp [partL, partGo]
  · rw [if_neg (by omega)]
    by_cases h1 : min q t = 0
    · rw [if_pos (by omega)]
      have : min t q = 0 := by omega
      simp [partL, partGo, this]
    · rw [if_neg (by omega)]
      have h2 : ¬ min t q = 0 := by omega
      have h3 : min t q = min q t := by omega
      simp [partL, partGo, h2, h3]; omega
theorem append_newLS (n q : Nat) (a b : ByteArray) (hab : ¬ a = b) (hn : n ≤ 65536) (hq : q ≤ 65536) : appendLS (newLS n a) (newLS q b) = newLS n a ++ newLS (min q (65536 - n)) b := by
  rw [appendLS, newLS_tot n a hn, partL_newLS q _ b hq]
  obtain ⟨d, hd⟩ : ∃ d, min q (65536 - n) = d := ⟨_, rfl⟩
  rw [hd]
  unfold newLS
  by_cases h0 : d = 0
  · subst h0; simp
  · rw [if_neg (show ¬ (d < 1 ∨ 65536 < d) by omega)]
    by_cases h1 : n = 0
    · subst h1; simp [pushL]; omega
    · rw [if_neg (show ¬ (n < 1 ∨ 65536 < n) by omega)]
      have h2 : ¬ d < 1 := by omega
      simp [pushL, hab, h2]
theorem cntS_new (n : Nat) (a b : ByteArray) (h : n ≤ 65536) : cntS a (expand (newLS n b)) = if b = a then n else 0 := by
  have h1 := cnt_expand_snocS a (newLS n b) 0
  unfold newLS at h1 ⊢
  by_cases h0 : n < 1 ∨ 65536 < n
  · rw [if_pos h0]
    have : n = 0 := by omega
    subst this
    simp [expand, cntS]
  · rw [if_neg h0] at h1 ⊢
    have h2 := h1 (by simp)
    simpa [expand, cntS] using h2
theorem long_plain (n q : Nat) (a b : ByteArray) (hab : ¬ a = b) (hn : n ≤ 65536) (hq : q ≤ 65536) (R : List (Rn ByteArray)) (hR : appendLS (newLS n a) (newLS q b) = R) :
    tot R = n + min q (65536 - n) ∧ cntS a (expand R) = n ∧ R.length = (if 0 < n then 1 else 0) + (if 0 < min q (65536 - n) then 1 else 0) := by
  rw [append_newLS n q a b hab hn hq] at hR
  subst hR
  refine ⟨?_, ?_, ?_⟩
  · rw [tot_append, newLS_tot _ _ hn, newLS_tot _ _ (by omega)]
  · rw [expand_append, cntS, List.count_append]
    have h1 := cntS_new n a a hn
    have h2 := cntS_new (min q (65536 - n)) a b (by omega)
    rw [if_pos rfl] at h1
    rw [if_neg (fun e => hab e.symm)] at h2
    unfold cntS at h1 h2
    omega
  · rw [List.length_append, newLS_len _ _ hn, newLS_len _ _ (by omega)]
end Go.Proofs.Ytjbbkhoonenfjaa

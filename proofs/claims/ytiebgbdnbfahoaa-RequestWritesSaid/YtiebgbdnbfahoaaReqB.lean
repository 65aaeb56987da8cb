/- Layer 10: Decode over any bytes, both sides at once; the law RequestDecode. -/
import Derived.Test.YtiebgbdnbfahoaaReqX
import Derived.Test.YtiebgbdnbfahoaaReqDR
set_option linter.unusedVariables false
set_option linter.unusedSimpArgs false
namespace Go.Proofs.Ytiebgbdnbfahoaa
open Go.RowKit

theorem bytes_any (A : Option Addr) (n c m : Nat) (w : World) (hl : n ≤ c) (hc : c ≤ maxLen) (hm : m ≤ 1000000) :
    Calls Try.prog 17 #[.slice A n c, .int .i64 m] w fun e w' => e = .returned (.slice A (min n m) c) ∧ w = w' := by
  unfold maxLen at hc
  by_cases h : n ≤ m
  · have e : min n m = n := Nat.min_eq_left h
    have HE := Lib.hid e; clear e
    go_enter Try.func17, Try.ntmps17
    go_wp2
    go_ret
    exact ⟨by rw [HE.out]; rfl, rfl⟩
  · have e : min n m = m := Nat.min_eq_right (by omega)
    have HE := Lib.hid e; clear e
    have h' : m < n := by omega
    clear h
    go_enter Try.func17, Try.ntmps17
    go_wp2
    go_ret
    exact ⟨by rw [HE.out]; rfl, rfl⟩

abbrev DecP (xs : List Int) (f a n c o er : Int) : Prop := ∀ (A : Option Addr) (m B cap : Nat) (w : World), Rd w B 1 A m (by8 xs) → Calls Try.prog 16 #[.slice A m cap] w fun e w' => e = .returned (.tuple #[qv f a n c o, .int .i64 er]) ∧ Below w.heap.size w w'
abbrev DecR (xs : List Int) (f a n c o er : Int) : Prop := ∀ (A : Option Addr) (m B cap : Nat) (w : World), Rd w B 1 A m (by8 xs) → Calls Try.prog 18 #[.slice A m cap] w fun e w' => e = .returned (.tuple #[qv f a n c o, .int .i64 er]) ∧ Below w.heap.size w w'
theorem Rd.get8' {w : World} {B m : Nat} {A : Option Addr} {x : Int} {xs : List Int} (h : Rd w B 1 A m (by8 (x :: xs))) : m = xs.length + 1 ∧ ∃ b off, A = some ⟨b, off, none⟩ ∧ b < w.heap.size ∧ w.cell? ⟨b, off, none⟩ = some (.int .u8 x) ∧ ∀ k y, xs[k]? = some y → w.cell? ⟨b, off + (k + 1), none⟩ = some (.int .u8 y) := by
  have hl := h.len8
  have hl' : m = xs.length + 1 := by simpa using hl.symm
  obtain ⟨b, off, rfl, hb, hc⟩ := (h.fits (by decide)).get8 (by omega)
  exact ⟨hl', b, off, rfl, hb, hc 0 x rfl, fun k y hk => hc (k + 1) y (by simpa using hk)⟩

/-- Decode, both sides: either a valid request and OK, and the bytes are its encoding; or the zero request and an error. -/
theorem dec_both (xs : List Int) (hx : ∀ x ∈ xs, 0 ≤ x ∧ x ≤ 255) : ∃ f a n c o er, ((er = 0 ∧ vq f a n c o = true ∧ encL f a n c o = xs) ∨ (er ≠ 0 ∧ f = 0 ∧ a = 0 ∧ n = 0 ∧ c = 0 ∧ o = 0)) ∧ DecP xs f a n c o er ∧ DecR xs f a n c o er := by
  rcases xs with _ | ⟨x, xs⟩
  · refine ⟨0, 0, 0, 0, 0, 4, .inr (by decide), ?_, ?_⟩
    · intro A m B cap w h
      obtain rfl : m = 0 := by simpa using h.len8.symm
      exact dec_nil A cap w
    · intro A m B cap w h
      obtain rfl : m = 0 := by simpa using h.len8.symm
      exact rdec_nil A cap w
  · have hx0 := hx x (by simp)
    by_cases ht : 1 ≤ x ∧ x ≤ 4
    · obtain ⟨t1, t4⟩ := ht
      by_cases hl : xs.length = 4
      · match xs, hl with
        | [p, q, s, t], _ =>
          have hp := hx p (by simp)
          have hq := hx q (by simp)
          have hs := hx s (by simp)
          have ht := hx t (by simp)
          by_cases hv : vq x (p * 256 + q) (s * 256 + t) 0 0 = true
          · refine ⟨x, p * 256 + q, s * 256 + t, 0, 0, 0, .inl ⟨rfl, hv, ?_⟩, ?_, ?_⟩
            · rw [encL_tab _ _ _ t1 t4, show (p * 256 + q) / 256 = p by omega, show (p * 256 + q) % 256 = q by omega, show (s * 256 + t) / 256 = s by omega, show (s * 256 + t) % 256 = t by omega]
            · intro A m B cap w h
              obtain ⟨rfl, b, off, rfl, hb, c0, hc⟩ := h.get8'
              exact dec_tabY _ _ _ _ _ _ _ _ _ _ _ hb t1 t4 hp hq hs ht rfl rfl hv c0 (hc 0 _ rfl) (hc 1 _ rfl) (hc 2 _ rfl) (hc 3 _ rfl)
            · intro A m B cap w h
              obtain ⟨rfl, b, off, rfl, hb, c0, hc⟩ := h.get8'
              exact rdec_tabY _ _ _ _ _ _ _ _ _ _ _ hb t1 t4 hp hq hs ht rfl rfl hv c0 (hc 0 _ rfl) (hc 1 _ rfl) (hc 2 _ rfl) (hc 3 _ rfl)
          · have hv := Bool.eq_false_iff.2 hv
            refine ⟨0, 0, 0, 0, 0, 3, .inr (by decide), ?_, ?_⟩
            · intro A m B cap w h
              obtain ⟨rfl, b, off, rfl, hb, c0, hc⟩ := h.get8'
              exact dec_tabN _ _ _ _ _ _ _ _ _ _ _ hb t1 t4 hp hq hs ht rfl rfl hv c0 (hc 0 _ rfl) (hc 1 _ rfl) (hc 2 _ rfl) (hc 3 _ rfl)
            · intro A m B cap w h
              obtain ⟨rfl, b, off, rfl, hb, c0, hc⟩ := h.get8'
              exact rdec_tabN _ _ _ _ _ _ _ _ _ _ _ hb t1 t4 hp hq hs ht rfl rfl hv c0 (hc 0 _ rfl) (hc 1 _ rfl) (hc 2 _ rfl) (hc 3 _ rfl)
      · refine ⟨0, 0, 0, 0, 0, 4, .inr (by decide), ?_, ?_⟩
        · intro A m B cap w h
          obtain ⟨hm, b, off, rfl, hb, c0, hc⟩ := h.get8'
          exact dec_tabL _ _ _ _ _ _ hb t1 t4 (by omega) (by omega) c0
        · intro A m B cap w h
          obtain ⟨hm, b, off, rfl, hb, c0, hc⟩ := h.get8'
          exact rdec_tabL _ _ _ _ _ _ hb t1 t4 (by omega) (by omega) c0
    · by_cases h17 : x = 17
      · subst h17
        by_cases hl : xs.length = 0
        · obtain rfl := List.eq_nil_of_length_eq_zero hl
          refine ⟨17, 0, 0, 0, 0, 0, .inl ⟨rfl, by decide +kernel, rfl⟩, ?_, ?_⟩
          · intro A m B cap w h
            obtain ⟨rfl, b, off, rfl, hb, c0, hc⟩ := h.get8'
            exact dec_srvY 0 _ _ _ _ hb rfl c0
          · intro A m B cap w h
            obtain ⟨rfl, b, off, rfl, hb, c0, hc⟩ := h.get8'
            exact rdec_srvY 0 _ _ _ _ hb rfl c0
        · refine ⟨0, 0, 0, 0, 0, 4, .inr (by decide), ?_, ?_⟩
          · intro A m B cap w h
            obtain ⟨hm, b, off, rfl, hb, c0, hc⟩ := h.get8'
            exact dec_srvL 0 _ _ _ _ _ hb rfl (by omega) (by omega) c0
          · intro A m B cap w h
            obtain ⟨hm, b, off, rfl, hb, c0, hc⟩ := h.get8'
            exact rdec_srvL 0 _ _ _ _ _ hb rfl (by omega) (by omega) c0
      · by_cases h43 : x = 43
        · subst h43
          by_cases hl : xs.length = 3
          · match xs, hl with
            | [k, c, o], _ =>
              have hc := hx c (by simp)
              have ho := hx o (by simp)
              by_cases hk : k = 14
              · subst hk
                by_cases hv : vq 43 0 0 c o = true
                · refine ⟨43, 0, 0, c, o, 0, .inl ⟨rfl, hv, rfl⟩, ?_, ?_⟩
                  · intro A m B cap w h
                    obtain ⟨rfl, b, off, rfl, hb, c0, hcc⟩ := h.get8'
                    exact dec_devY _ _ _ _ _ _ hb hv hc ho c0 (hcc 0 _ rfl) (hcc 1 _ rfl) (hcc 2 _ rfl)
                  · intro A m B cap w h
                    obtain ⟨rfl, b, off, rfl, hb, c0, hcc⟩ := h.get8'
                    exact rdec_devY _ _ _ _ _ _ hb hv hc ho c0 (hcc 0 _ rfl) (hcc 1 _ rfl) (hcc 2 _ rfl)
                · have hv := Bool.eq_false_iff.2 hv
                  refine ⟨0, 0, 0, 0, 0, 3, .inr (by decide), ?_, ?_⟩
                  · intro A m B cap w h
                    obtain ⟨rfl, b, off, rfl, hb, c0, hcc⟩ := h.get8'
                    exact dec_devN _ _ _ _ _ _ hb hv hc ho c0 (hcc 0 _ rfl) (hcc 1 _ rfl) (hcc 2 _ rfl)
                  · intro A m B cap w h
                    obtain ⟨rfl, b, off, rfl, hb, c0, hcc⟩ := h.get8'
                    exact rdec_devN _ _ _ _ _ _ hb hv hc ho c0 (hcc 0 _ rfl) (hcc 1 _ rfl) (hcc 2 _ rfl)
              · refine ⟨0, 0, 0, 0, 0, 6, .inr (by decide), ?_, ?_⟩
                · intro A m B cap w h
                  obtain ⟨rfl, b, off, rfl, hb, c0, hcc⟩ := h.get8'
                  exact dec_devK _ _ _ _ _ hb hk c0 (hcc 0 _ rfl)
                · intro A m B cap w h
                  obtain ⟨rfl, b, off, rfl, hb, c0, hcc⟩ := h.get8'
                  exact rdec_devK _ _ _ _ _ hb hk c0 (hcc 0 _ rfl)
          · refine ⟨0, 0, 0, 0, 0, 4, .inr (by decide), ?_, ?_⟩
            · intro A m B cap w h
              obtain ⟨hm, b, off, rfl, hb, c0, hc⟩ := h.get8'
              exact dec_devL 0 _ _ _ _ _ hb rfl (by omega) (by omega) c0
            · intro A m B cap w h
              obtain ⟨hm, b, off, rfl, hb, c0, hc⟩ := h.get8'
              exact rdec_devL 0 _ _ _ _ _ hb rfl (by omega) (by omega) c0
        · refine ⟨0, 0, 0, 0, 0, 16, .inr (by decide), ?_, ?_⟩
          · intro A m B cap w h
            obtain ⟨hm, b, off, rfl, hb, c0, hc⟩ := h.get8'
            exact dec_other _ _ _ _ _ _ hb hx0.1 hx0.2 ht h17 h43 (by omega) c0
          · intro A m B cap w h
            obtain ⟨hm, b, off, rfl, hb, c0, hc⟩ := h.get8'
            exact rdec_other _ _ _ _ _ _ hb hx0.1 hx0.2 ht h17 h43 (by omega) c0

end Go.Proofs.Ytiebgbdnbfahoaa

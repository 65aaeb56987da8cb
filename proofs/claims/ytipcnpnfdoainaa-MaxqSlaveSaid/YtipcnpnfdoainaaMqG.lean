/- Layer 24: the law MaxqFinds. -/
import Derived.Test.YtipcnpnfdoainaaMqO
import Derived.Test.YtipcnpnfdoainaaRegS
import Derived.Test.YtipcnpnfdoainaaOpen
import Derived.Deep.RegionHeld3
import Derived.IntWalk
set_option linter.unusedVariables false
set_option linter.unusedSimpArgs false
namespace Go.Proofs.Ytipcnpnfdoainaa
open Go.RowKit

theorem istab_yes (t : Int) (h1 : 1 ≤ t) (h4 : t ≤ 4) (w : World) : Calls Try.prog 37 #[.int .i64 t] w fun e w' => e = .returned (.bool true) ∧ w = w' := by
  go_enter Try.func37, Try.ntmps37
  go_wp2
  go_ret
  exact ⟨by simp [h4], rfl⟩
set_option maxRecDepth 100000 in
set_option maxHeartbeats 1000000 in
theorem valid_tab (t n L : Int) (h1 : 1 ≤ t) (h4 : t ≤ 4) (hL : mlim t = L) (n1 : 1 ≤ n) (n2 : n ≤ L) (hL2 : L ≤ 2000) (w : World) :
    Calls Try.prog 24 #[qv t 0 n 0 0] w fun e w' => e = .returned (.bool true) ∧ Below w.heap.size w w' := by
  have HT := Lib.hid (fun w => istab_yes t h1 h4 w)
  have HL := Lib.hid (fun w => limit_eq t L hL w)
  clear hL
  go_enter Try.func24, Try.ntmps24
  go_wp2_with fail
  refine (HT.out _).mono ?_
  rintro e w' ⟨rfl, rfl⟩
  go_wp2_with fail
  have e1 : IntKind.i64.wrap (65536 - n) = 65536 - n := IntWalk.i64_in _ ⟨by omega, by omega⟩
  have e2 : (0 : Int) ≤ 65536 - n := by omega
  have e3 : n ≤ 65536 := by omega
  go_quiet ((go_at_call 27; exact quiet_left (HL.out _)))
  go_wp2
  go_ret
  refine ⟨?_, below_drewN ((Below.refl _ _).alloc (Nat.le_refl _) _) _⟩
  first | rfl | (simp; omega)
theorem bsearch_any (t : Int) (h1 : 1 ≤ t) (h4 : t ≤ 4) (w : World) : Calls Try.prog 25 #[.int .i64 t] w fun e w' => e = .returned (.int .i64 (if t ≤ 2 then 12 else 8)) ∧ w = w' := by
  obtain rfl | rfl | rfl | rfl : t = 1 ∨ t = 2 ∨ t = 3 ∨ t = 4 := by omega
  all_goals
    go_enter Try.func25, Try.ntmps25
    go_wp2
    go_ret
    exact ⟨rfl, rfl⟩
/-- What holds of the search before query k: B queries suffice. -/
def fj (L most : Int) (B k : Nat) (lo hi st : Int) : Prop :=
  0 ≤ lo ∧ lo ≤ most ∧ most < hi ∧ hi ≤ L + 1 ∧ k ≤ B ∧ ((st = 0 ∧ (if k = 0 then lo = 0 ∧ hi = L + 1 else 1 ≤ lo ∧ 2 ≤ hi - lo ∧ hi - lo ≤ (2 ^ (B - k) : Int))) ∨ (st = 2 ∧ 1 ≤ k ∧ hi = lo + 1))
theorem fj_lt {L most : Int} {B k : Nat} {lo hi : Int} (hB : (L = 2000 ∧ B = 12) ∨ (L = 125 ∧ B = 8)) (h : fj L most B k lo hi 0) : k < B := by
  obtain ⟨h1, h2, h3, h4, h5, h6 | h6⟩ := h
  · by_cases hk : k = 0
    · omega
    · obtain ⟨_, h6⟩ := h6
      rw [if_neg hk] at h6
      rcases Nat.lt_or_ge k B with h | h
      · exact h
      · rw [show B - k = 0 by omega] at h6; simp at h6; omega
  · omega
theorem fj_n {L most : Int} {B k : Nat} {lo hi n : Int} (hB : (L = 2000 ∧ B = 12) ∨ (L = 125 ∧ B = 8)) (h : fj L most B k lo hi 0) (hn : mqn lo hi k = n) : 1 ≤ n ∧ n ≤ L := by
  obtain ⟨h1, h2, h3, h4, h5, h6 | h6⟩ := h
  · obtain ⟨_, h6⟩ := h6
    unfold mqn at hn
    by_cases hk : k = 0
    · rw [if_pos hk] at h6; rw [if_pos (by omega)] at hn; omega
    · rw [if_neg hk] at h6; rw [if_neg (by omega)] at hn; omega
  · omega
theorem fj_step {L most : Int} {B k : Nat} {lo hi V E x y z : Int} {r : Bool} (hB : (L = 2000 ∧ B = 12) ∨ (L = 125 ∧ B = 8)) (hm : 1 ≤ most) (h : fj L most B k lo hi 0) (ho : mqo (mqn lo hi k) most r = (V, E)) (hf : mfeed V E lo hi k = (x, y, z)) : fj L most B (k + 1) x y z ∧ (z = 0 ∨ z = 2) := by
  have hlt := fj_lt hB h
  obtain ⟨h1, h2, h3, h4, h5, h6 | h6⟩ := h
  · obtain ⟨_, h6⟩ := h6
    have hP : (2 ^ (B - k) : Int) = 2 * 2 ^ (B - (k + 1)) := by
      rw [show B - k = B - (k + 1) + 1 by omega, Int.pow_succ, Int.mul_comm]
    by_cases hk : k = 0
    · subst hk
      rw [if_pos rfl] at h6
      obtain ⟨rfl, rfl⟩ := h6
      have e1 : mqn 0 (L + 1) (0 : Nat) = 1 := by simp [mqn]
      rw [e1, mqo, if_neg (by omega)] at ho
      have e2 : mfeed V E 0 (L + 1) (0 : Nat) = (1, L + 1, 0) := by
        have hc : V = 1 ∨ (V = 2 ∧ E = 2) := by cases r <;> simp at ho <;> omega
        rw [mfeed, if_pos hc, e1, if_neg (by omega)]
      rw [e2] at hf
      simp only [Prod.mk.injEq] at hf
      obtain ⟨rfl, rfl, rfl⟩ := hf
      refine ⟨⟨by omega, hm, by omega, by omega, by omega, .inl ⟨rfl, ?_⟩⟩, .inl rfl⟩
      rw [if_neg (by omega)]
      rcases hB with ⟨rfl, rfl⟩ | ⟨rfl, rfl⟩ <;> refine ⟨by omega, by omega, by decide⟩
    · rw [if_neg hk] at h6
      have hq : ((k : Int) = 0) = False := by simp; omega
      have e1 : mqn lo hi k = (lo + hi) / 2 := by rw [mqn, if_neg (by omega)]
      rw [e1] at ho
      unfold mqo at ho
      split at ho
      · simp at ho
        obtain ⟨rfl, rfl⟩ := ho
        rw [mfeed, if_neg (by omega), if_neg (by omega), if_pos ⟨by omega, rfl, rfl⟩, e1] at hf
        simp only [Prod.mk.injEq] at hf
        obtain ⟨rfl, rfl, rfl⟩ := hf
        split
        · exact ⟨⟨by omega, by omega, by omega, by omega, by omega, .inr ⟨rfl, by omega, by omega⟩⟩, .inr rfl⟩
        · refine ⟨⟨by omega, by omega, by omega, by omega, by omega, .inl ⟨rfl, ?_⟩⟩, .inl rfl⟩
          rw [if_neg (by omega)]
          omega
      · have hc : V = 1 ∨ (V = 2 ∧ E = 2) := by cases r <;> simp at ho <;> omega
        rw [mfeed, if_pos hc, e1] at hf
        simp only [Prod.mk.injEq] at hf
        obtain ⟨rfl, rfl, rfl⟩ := hf
        split
        · exact ⟨⟨by omega, by omega, by omega, by omega, by omega, .inr ⟨rfl, by omega, by omega⟩⟩, .inr rfl⟩
        · refine ⟨⟨by omega, by omega, by omega, by omega, by omega, .inl ⟨rfl, ?_⟩⟩, .inl rfl⟩
          rw [if_neg (by omega)]
          omega
  · omega
theorem Fed.gr {w w' : World} {b : Nat} {t lo hi st q : Int} (h : Fed w b t lo hi st q w') : w.grownBy w' (some b) := h.2
theorem cells_one {w w' : World} {b c : Nat} (hg : w.grownBy w' (some c)) (hb : b < w.heap.size) (hne : b ≠ c) (o : Nat) : w'.cell? ⟨b, o, none⟩ = w.cell? ⟨b, o, none⟩ :=
  World.cell?_of_block (hg.block b hb (by intro e; injection e with e; exact hne e))
theorem Box.set5 {w : World} {g : Nat} {a0 a1 a2 a3 a4 b0 b1 b2 b3 b4 : Value} (h : Box w g #[a0, a1, a2, a3, a4]) :
    Box (((((w.setCell ⟨g, 0, none⟩ b0).setCell ⟨g, 1, none⟩ b1).setCell ⟨g, 2, none⟩ b2).setCell ⟨g, 3, none⟩ b3).setCell ⟨g, 4, none⟩ b4) g #[b0, b1, b2, b3, b4] :=
  ((((h.set (k := 0) (by simp) rfl).set (k := 1) (by simp) rfl).set (k := 2) (by simp) rfl).set (k := 3) (by simp) rfl).set (k := 4) (by simp) rfl
theorem Box.other {w : World} {b g k : Nat} {cs : Array Value} {v : Value} (h : Box w b cs) (hne : b ≠ g) : Box (w.setCell ⟨g, k, none⟩ v) b cs :=
  ⟨fun i => by rw [World.cell?_setCell_other _ _ _ _ (by intro e; injection e with e _; exact hne e.symm)]; exact h.1 i, fun i => (World.frozen?_setCell _ _ _ _).trans (h.2.1 i), by simpa [World.setCell] using h.2.2⟩
/-- What the loop holds: the search's box, the box of the next request. -/
def FH (w wr : World) (g : Nat) (t L most : Int) (B k : Nat) (ok : Bool) : Prop := ∃ lo hi st fq n : Int, sBox wr w.heap.size t lo hi st k ∧ Box wr g #[.int .i64 fq, .int .i64 0, .int .i64 n, .int .i64 0, .int .i64 0] ∧ w.heap.size < g ∧ fj L most B k lo hi st ∧ ((ok = true ∧ st = 0 ∧ fq = t ∧ mqn lo hi k = n) ∨ (ok = false ∧ st = 2)) ∧ Below w.heap.size w wr

set_option maxRecDepth 100000 in
set_option maxHeartbeats 4000000 in
theorem lawFinds_any (t0 m0 : Int) (l : List Bool) (A : Option Addr) (c : Nat) (w : World) (hr : Rd w w.heap.size 1 A l.length (l.map Value.bool)) (hl : l.length ≤ maxLen) :
    Calls Try.prog 6 #[.int .i64 t0, .int .i64 m0, .slice A l.length c] w fun e w' => e = .returned (.bool true) ∧ Below w.heap.size w w' := by
  unfold maxLen at hl
  obtain ⟨r0, hr0⟩ : ∃ r, t0 % 4 = r := ⟨_, rfl⟩
  have b0 : 0 ≤ r0 ∧ r0 ≤ 3 := by omega
  obtain ⟨L, hL⟩ : ∃ L, mlim (1 + r0) = L := ⟨_, rfl⟩
  have bL := mlim_pos (1 + r0) (by omega) (by omega)
  rw [hL] at bL
  obtain ⟨r1, hr1⟩ : ∃ r, m0 % L = r := ⟨_, rfl⟩
  have b1 : 0 ≤ r1 ∧ 1 + r1 ≤ L := by
    have h1 := Int.emod_nonneg m0 (show L ≠ 0 by omega)
    have h2 := Int.emod_lt_of_pos m0 (show 0 < L by omega)
    omega
  obtain ⟨B, hB, hBL⟩ : ∃ B : Nat, (if 1 + r0 ≤ 2 then 12 else 8 : Int) = (B : Int) ∧ ((L = 2000 ∧ B = 12) ∨ (L = 125 ∧ B = 8)) := by
    unfold mlim at hL
    by_cases h : 1 + r0 ≤ 2
    · exact ⟨12, by rw [if_pos h]; rfl, .inl ⟨by rw [← hL, if_pos (by omega)], rfl⟩⟩
    · exact ⟨8, by rw [if_neg h]; rfl, .inr ⟨by rw [← hL, if_neg (by omega), if_pos (by omega)], rfl⟩⟩
  have bB : B ≤ 12 := by omega
  have HM0 := Lib.hid (fun w => mod_eq t0 4 r0 (by omega) (by omega) hr0 w)
  have HM1 := Lib.hid (fun w => mod_eq m0 L r1 (by omega) (by omega) hr1 w)
  have HN := Lib.hid (fun w => mqNew_any (1 + r0) w (by omega) (by omega))
  have HS := Lib.hid (fun w => bsearch_any (1 + r0) (by omega) (by omega) w)
  rw [hL] at HN
  rw [hB] at HS
  have HL := Lib.hid (fun w => rlimit_any (1 + r0) L hL (by omega) (by omega) w)
  have HV0 := Lib.hid (fun n h1 h2 w => valid_tab (1 + r0) n L (by omega) (by omega) hL h1 h2 (by omega) w)
  have HBL := Lib.hid hBL
  have HR := Lib.hid hr
  obtain ⟨b01, b02⟩ := b0
  obtain ⟨b11, b12⟩ := b1
  obtain ⟨bL1, bL2⟩ := bL
  clear hr0 hL hr1 hB hBL hr
  go_enter Try.func6, Try.ntmps6
  go_wp2_with fail
  refine (HM0.out _).mono ?_
  rintro e w' ⟨rfl, rfl⟩
  go_wp2_with fail
  refine (HL.out _).mono ?_
  rintro e w' ⟨rfl, rfl⟩
  go_wp2_with fail
  refine (HM1.out _).mono ?_
  rintro e w' ⟨rfl, rfl⟩
  go_wp2_with fail
  refine (HN.out _).mono ?_
  rintro e w1 ⟨rfl, hB1, hb1⟩
  have hs1 : w.heap.size < w1.heap.size := hB1.2.2
  go_wp2_with fail
  refine (mqNext_open w.heap.size (1 + r0) 0 (L + 1) 0 1 w1 hB1 (by omega) (by omega) (by omega) (by omega) (by simp [mqn])).mono ?_
  rintro e w2 ⟨rfl, hb2⟩
  have hs2 := hb2.size
  have hst : FH w (w2.alloc (.cells #[.int .i64 (1 + r0), .int .i64 0, .int .i64 1, .int .i64 0, .int .i64 0] 30)) w2.heap.size (1 + r0) L (1 + r1) B 0 true :=
    ⟨0, L + 1, 0, 1 + r0, 1, (hB1.below hb2).alloc' _, Box.alloc_, by omega, ⟨by omega, by omega, by omega, by omega, by omega, .inl ⟨rfl, by simp⟩⟩, .inl ⟨rfl, rfl, rfl, by simp [mqn]⟩, ext_alloc (ext_trans hb1 hb2) _⟩
  clear hB1 hb1 hb2
  go_wp2_with fail
  go_loopw [8, 9, 10] (fun n p o wr => ∃ (k g : Nat) (ok : Bool), n = .int .i64 k ∧ p = .pointer (some ⟨g, 0, none⟩) ∧ o = .bool ok ∧ k ≤ B ∧ FH w wr g (1 + r0) L (1 + r1) B k ok) (fun n _ _ _ => B - (intOf n).toNat)
  case atStart => exact ⟨0, _, true, rfl, rfl, rfl, by omega, hst⟩
  case round =>
    obtain ⟨k, g, ok, rfl, rfl, rfl, hkB, lo, hi, st, fq, n, hB, hG, hgs, hfj, hcase, hbw⟩ := hrel
    clear hst
    have hsw := hB.2.2
    have hgl := hG.2.2
    have HB := Lib.hid hB
    have HG := Lib.hid hG
    rcases hcase with ⟨rfl, rfl, rfl, hn⟩ | ⟨rfl, rfl⟩
    · obtain ⟨n1, n2⟩ := fj_n HBL.out hfj hn
      have hkl := fj_lt HBL.out hfj
      have hbd : 0 ≤ lo ∧ lo ≤ 3000 ∧ 0 ≤ hi ∧ hi ≤ 3000 := by obtain ⟨x1, x2, x3, x4, _⟩ := hfj; omega
      obtain ⟨l0, l1, h0, h1⟩ := hbd
      have HV := Lib.hid (HV0.out n n1 n2)
      have HFJ := Lib.hid hfj
      have HNN := Lib.hid hn
      obtain ⟨d0, d1, d2, d3, d4⟩ : wr.cell? ⟨g, 0, none⟩ = some (.int .i64 (1 + r0)) ∧ wr.cell? ⟨g, 1, none⟩ = some (.int .i64 0) ∧ wr.cell? ⟨g, 2, none⟩ = some (.int .i64 n) ∧ wr.cell? ⟨g, 3, none⟩ = some (.int .i64 0) ∧ wr.cell? ⟨g, 4, none⟩ = some (.int .i64 0) := ⟨hG.1 0, hG.1 1, hG.1 2, hG.1 3, hG.1 4⟩
      have hkb : ((B : Int) ≤ (k : Int)) = False := by simp; omega
      have hkb' : decide ((B : Int) ≤ (k : Int)) = false := by simp; omega
      have hkb2 : decide (B ≤ k) = false := by simp; omega
      clear hB hG hfj hn hkb
      by_cases hlt : k < l.length
      · obtain ⟨b', off, rfl, hbS, hcl⟩ := (HR.out.below hbw (Nat.le_refl _)).2 (by omega)
        obtain ⟨x, hx⟩ : ∃ x, l[k] = x := ⟨_, rfl⟩
        have dx : wr.cell? ⟨b', off + k, none⟩ = some (.bool x) := hcl k _ (by simp [List.getElem?_eq_getElem hlt, hx])
        obtain ⟨V, E, hO⟩ : ∃ V E, mqo n (1 + r1) x = (V, E) := ⟨_, _, rfl⟩
        obtain ⟨a, b, z, hF⟩ : ∃ x y z, mfeed V E lo hi k = (x, y, z) := ⟨_, _, _, rfl⟩
        have HST := Lib.hid (fj_step HBL.out (by omega) HFJ.out (by rw [HNN.out]; exact hO) hF)
        have HO := Lib.hid (fun w => outcome_any (1 + r0) 0 n 0 0 (1 + r1) V E x hO w)
        have HF := Lib.hid (fun (W : World) (hW : sBox W w.heap.size (1 + r0) lo hi 0 k) => mqFeed_any w.heap.size (1 + r0) lo hi k a b z V (1 + r0) E 0 0 0 false none none 0 0 0 0 W hW l0 l1 h0 h1 (by omega) (by omega) hF)
        obtain ⟨W0, hW0⟩ : ∃ W0, wr = W0 := ⟨_, rfl⟩
        subst hW0
        have hbW : b' < wr.heap.size := by omega
        have hbs : b' ≠ w.heap.size := by omega
        have hgW : g < wr.heap.size := hgl
        have hgs' : g ≠ w.heap.size := by omega
        have HB0 := HB
        have hlt2 : decide (k < l.length) = true := by simpa using hlt
        clear hx hO hF hcl
        go_wp2_with fail
        go_region_held3 (fun w' => w'.cell? ⟨g, 0, none⟩ = some (.int .i64 (1 + r0)) ∧ w'.cell? ⟨g, 1, none⟩ = some (.int .i64 0) ∧ w'.cell? ⟨g, 2, none⟩ = some (.int .i64 n) ∧ w'.cell? ⟨g, 3, none⟩ = some (.int .i64 0) ∧ w'.cell? ⟨g, 4, none⟩ = some (.int .i64 0) ∧ w'.cell? ⟨b', off + k, none⟩ = some (.bool x)) (first | exact ⟨d0, d1, d2, d3, d4, dx⟩ | exact ⟨(k2 _ _ hgW).trans d0, (k2 _ _ hgW).trans d1, (k2 _ _ hgW).trans d2, (k2 _ _ hgW).trans d3, (k2 _ _ hgW).trans d4, (k2 _ _ hbW).trans dx⟩ | exact ⟨(k3 _ _ hgW).trans d0, (k3 _ _ hgW).trans d1, (k3 _ _ hgW).trans d2, (k3 _ _ hgW).trans d3, (k3 _ _ hgW).trans d4, (k3 _ _ hbW).trans dx⟩ | exact ⟨(k4 _ _ hgW hgs').trans d0, (k4 _ _ hgW hgs').trans d1, (k4 _ _ hgW hgs').trans d2, (k4 _ _ hgW hgs').trans d3, (k4 _ _ hgW hgs').trans d4, (k4 _ _ hbW hbs).trans dx⟩) (first | (go_at_call 24; refine (HV.out _).mono ?_; rintro e w2 ⟨rfl, hb2⟩; have k2 : ∀ b o, b < wr.heap.size → w2.cell? ⟨b, o, none⟩ = wr.cell? ⟨b, o, none⟩ := (fun b o h => hb2.cell (p := ⟨b, o, none⟩) h)) | (go_at_call 25; refine (HS.out _).mono ?_; rintro e w' ⟨rfl, rfl⟩) | (go_at_call 23; refine (HO.out _).mono ?_; rintro e w3 ⟨rfl, hb3⟩; have k3 : ∀ b o, b < wr.heap.size → w3.cell? ⟨b, o, none⟩ = wr.cell? ⟨b, o, none⟩ := (fun b o h => (hb3.cell (p := ⟨b, o, none⟩) (Nat.lt_of_lt_of_le h hb2.size)).trans (k2 b o h))) | (go_at_call 16; refine (HF.out _ ((HB0.out.drew.below hb2).below hb3)).mono ?_; rintro e w4 ⟨rfl, hf4⟩; have k4 : ∀ b o, b < wr.heap.size → b ≠ w.heap.size → w4.cell? ⟨b, o, none⟩ = wr.cell? ⟨b, o, none⟩ := (fun b o h hne => (cells_one hf4.gr (Nat.lt_of_lt_of_le h (Nat.le_trans hb2.size hb3.size)) hne o).trans (k3 b o h))))
        obtain ⟨hB4, hg4⟩ := hf4
        obtain ⟨hstep, hz⟩ := HST.out
        have hB4' : sBox w4 w.heap.size (1 + r0) a b z ((k + 1 : Nat) : Int) := hB4
        have hs4 : wr.heap.size ≤ w4.heap.size := Nat.le_trans hb2.size (Nat.le_trans hb3.size hg4.size)
        have hbw4 : Below w.heap.size w w4 := below_one (((below_drew hbw).trans (hb2.mono hbw.size)).trans (hb3.mono (Nat.le_trans hbw.size hb2.size))) hg4 (Nat.le_refl _) (Nat.le_trans hbw.size (Nat.le_trans hb2.size hb3.size))
        have e0 : w4.cell? ⟨g, 0, none⟩ = some (.int .i64 (1 + r0)) := (k4 g 0 hgW hgs').trans d0
        have e1 : w4.cell? ⟨g, 1, none⟩ = some (.int .i64 0) := (k4 g 1 hgW hgs').trans d1
        have e2 : w4.cell? ⟨g, 2, none⟩ = some (.int .i64 n) := (k4 g 2 hgW hgs').trans d2
        have e3 : w4.cell? ⟨g, 3, none⟩ = some (.int .i64 0) := (k4 g 3 hgW hgs').trans d3
        have e4 : w4.cell? ⟨g, 4, none⟩ = some (.int .i64 0) := (k4 g 4 hgW hgs').trans d4
        have HB4 := Lib.hid (hB4'.alloc' (.cells #[.int .i64 (1 + r0), .int .i64 0, .int .i64 n, .int .i64 0, .int .i64 0] 30))
        have HFS := Lib.hid hstep
        have hbd : 0 ≤ a ∧ a ≤ 3000 ∧ 0 ≤ b ∧ b ≤ 3000 := by obtain ⟨x1, x2, x3, x4, _⟩ := hstep; omega
        obtain ⟨p0, p1, p2, p3⟩ := hbd
        have hbw5 := ext_alloc hbw4 (.cells #[.int .i64 (1 + r0), .int .i64 0, .int .i64 n, .int .i64 0, .int .i64 0] 30)
        have hws : w.heap.size < w4.heap.size := by omega
        clear hB4 hB4' hg4 hb2 hb3 k2 k3 k4 HV HO HF HST hstep HFJ HNN d0 d1 d2 d3 d4 HB HG HB0
        rcases hz with rfl | rfl
        · obtain ⟨n', hn'⟩ : ∃ n', mqn a b ((k + 1 : Nat) : Int) = n' := ⟨_, rfl⟩
          have HX := Lib.hid (mqNext_open w.heap.size (1 + r0) a b ((k + 1 : Nat) : Int) n' _ HB4.out p0 p1 p2 p3 hn')
          have HN' := Lib.hid hn'
          clear hn'
          go_wp2_with fail
          refine HX.out.mono ?_
          rintro e w5 ⟨rfl, hb5⟩
          have hG5 := Box.set5 (b0 := .int .i64 (1 + r0)) (b1 := .int .i64 0) (b2 := .int .i64 n') (b3 := .int .i64 0) (b4 := .int .i64 0) (Box.new hb5)
          have hB5 := (((((HB4.out.below hb5).other (g := w4.heap.size) (k := 0) (v := .int .i64 (1 + r0)) (by omega)).other (g := w4.heap.size) (k := 1) (v := .int .i64 0) (by omega)).other (g := w4.heap.size) (k := 2) (v := .int .i64 n') (by omega)).other (g := w4.heap.size) (k := 3) (v := .int .i64 0) (by omega)).other (g := w4.heap.size) (k := 4) (v := .int .i64 0) (by omega)
          have hbw6 : Below w.heap.size w w5 := hbw5.trans (hb5.mono hbw5.size)
          have hgg : w.heap.size ≤ w4.heap.size := by omega
          have hend : FH w _ w4.heap.size (1 + r0) L (1 + r1) B (k + 1) true := ⟨a, b, 0, 1 + r0, n', hB5, hG5, hws, HFS.out, .inl ⟨rfl, rfl, rfl, HN'.out⟩, ((((hbw6.setCell hgg _).setCell hgg _).setCell hgg _).setCell hgg _).setCell hgg _⟩
          have HE := Lib.hid hend
          obtain ⟨qg, zg, lg⟩ := Box.new hb5
          clear hend hG5 hB5 hbw6 hb5 hbw5 hbw4 HX
          go_wp2
          exact ⟨⟨k + 1, w4.heap.size, true, by go_num, rfl, rfl, by omega, HE.out⟩, by simp [intOf]; omega⟩
        · have HX := Lib.hid (mqNext_done w.heap.size (1 + r0) a b 2 ((k + 1 : Nat) : Int) _ HB4.out (by omega))
          go_wp2_with fail
          refine HX.out.mono ?_
          rintro e w5 ⟨rfl, hb5⟩
          have hG5 := Box.set5 (b0 := .int .i64 0) (b1 := .int .i64 0) (b2 := .int .i64 0) (b3 := .int .i64 0) (b4 := .int .i64 0) (Box.new hb5)
          have hB5 := (((((HB4.out.below hb5).other (g := w4.heap.size) (k := 0) (v := .int .i64 0) (by omega)).other (g := w4.heap.size) (k := 1) (v := .int .i64 0) (by omega)).other (g := w4.heap.size) (k := 2) (v := .int .i64 0) (by omega)).other (g := w4.heap.size) (k := 3) (v := .int .i64 0) (by omega)).other (g := w4.heap.size) (k := 4) (v := .int .i64 0) (by omega)
          have hbw6 : Below w.heap.size w w5 := hbw5.trans (hb5.mono hbw5.size)
          have hgg : w.heap.size ≤ w4.heap.size := by omega
          have hend : FH w _ w4.heap.size (1 + r0) L (1 + r1) B (k + 1) false := ⟨a, b, 2, 0, 0, hB5, hG5, hws, HFS.out, .inr ⟨rfl, rfl⟩, ((((hbw6.setCell hgg _).setCell hgg _).setCell hgg _).setCell hgg _).setCell hgg _⟩
          have HE := Lib.hid hend
          obtain ⟨qg, zg, lg⟩ := Box.new hb5
          clear hend hG5 hB5 hbw6 hb5 hbw5 hbw4 HX
          go_wp2
          exact ⟨⟨k + 1, w4.heap.size, false, by go_num, rfl, rfl, by omega, HE.out⟩, by simp [intOf]; omega⟩
      · obtain ⟨V, E, hO⟩ : ∃ V E, mqo n (1 + r1) false = (V, E) := ⟨_, _, rfl⟩
        obtain ⟨a, b, z, hF⟩ : ∃ x y z, mfeed V E lo hi k = (x, y, z) := ⟨_, _, _, rfl⟩
        have HST := Lib.hid (fj_step HBL.out (by omega) HFJ.out (by rw [HNN.out]; exact hO) hF)
        have HO := Lib.hid (fun w => outcome_any (1 + r0) 0 n 0 0 (1 + r1) V E false hO w)
        have HF := Lib.hid (fun (W : World) (hW : sBox W w.heap.size (1 + r0) lo hi 0 k) => mqFeed_any w.heap.size (1 + r0) lo hi k a b z V (1 + r0) E 0 0 0 false none none 0 0 0 0 W hW l0 l1 h0 h1 (by omega) (by omega) hF)
        obtain ⟨W0, hW0⟩ : ∃ W0, wr = W0 := ⟨_, rfl⟩
        subst hW0
        have hgW : g < wr.heap.size := hgl
        have hgs' : g ≠ w.heap.size := by omega
        have HB0 := HB
        have hlt2 : decide (k < l.length) = false := by simp; omega
        have hlt3 : decide ((k : Int) < (l.length : Int)) = false := by simp; omega
        have hlt4 : l.length ≤ k := by omega
        clear hO hF
        go_wp2_with fail
        have hS0 : (∀ i, wr.drew.cell? ⟨g, i, none⟩ = (#[.int .i64 (1 + r0), .int .i64 0, .int .i64 n, .int .i64 0, .int .i64 0] : Array Value)[i]?) ∧ True ∧ True := ⟨HG.out.1, trivial, trivial⟩
        refine rgs_start (fun w' => (∀ i, w'.cell? ⟨g, i, none⟩ = (#[.int .i64 (1 + r0), .int .i64 0, .int .i64 n, .int .i64 0, .int .i64 0] : Array Value)[i]?) ∧ True ∧ True) (by kernel_rfl) ?_
        refine rgs_t (v := ?_) (some 36) 0 (by kernel_rfl) rfl rfl (by assumption) (.inl ⟨by rfl, fun w' hw => ?_⟩) ?_
        rotate_left
        · obtain ⟨q1, q2, q3⟩ := hw; go_simp <;> with_reducible rfl
        try simp only [Act.put, List.setIfInBounds_toArray, List.set_cons_zero, List.set_cons_succ]
        refine rgs_c 1 (by kernel_rfl) rfl (by rfl) (fun K hK => ?_)
        go_simp
        refine (HV.out _).mono ?_
        rintro e w2 ⟨rfl, hb2⟩
        have k2 : ∀ b o, b < wr.heap.size → w2.cell? ⟨b, o, none⟩ = wr.cell? ⟨b, o, none⟩ := (fun b o h => hb2.cell (p := ⟨b, o, none⟩) h)
        have K2 := Lib.hid k2
        clear k2
        have hS2 : (∀ i, w2.cell? ⟨g, i, none⟩ = (#[.int .i64 (1 + r0), .int .i64 0, .int .i64 n, .int .i64 0, .int .i64 0] : Array Value)[i]?) ∧ True ∧ True := ⟨fun i => (K2.out g i hgW).trans (HG.out.1 i), trivial, trivial⟩
        refine hK _ _ hS2 ?_
        clear hK K
        try simp only [Act.put, List.setIfInBounds_toArray, List.set_cons_zero, List.set_cons_succ]
        refine rgs_t (v := ?_) (some 38) 2 (by kernel_rfl) rfl rfl (by assumption) (.inl ⟨by rfl, fun w' hw => ?_⟩) ?_
        rotate_left
        · obtain ⟨q1, q2, q3⟩ := hw; go_simp <;> with_reducible rfl
        try simp only [Act.put, List.setIfInBounds_toArray, List.set_cons_zero, List.set_cons_succ]
        refine rgs_t (v := ?_) (some 39) 3 (by kernel_rfl) rfl rfl (by assumption) (.inl ⟨by rfl, fun w' hw => ?_⟩) ?_
        rotate_left
        · obtain ⟨q1, q2, q3⟩ := hw; go_simp <;> with_reducible rfl
        try simp only [Act.put, List.setIfInBounds_toArray, List.set_cons_zero, List.set_cons_succ]
        refine rgs_t (v := ?_) (some 40) 4 (by kernel_rfl) rfl rfl (by assumption) (.inl ⟨by rfl, fun w' hw => ?_⟩) ?_
        rotate_left
        · obtain ⟨q1, q2, q3⟩ := hw; go_simp <;> with_reducible rfl
        try simp only [Act.put, List.setIfInBounds_toArray, List.set_cons_zero, List.set_cons_succ]
        refine rgs_t (v := ?_) (some 41) 5 (by kernel_rfl) rfl rfl (by assumption) (.inl ⟨by rfl, fun w' hw => ?_⟩) ?_
        rotate_left
        · obtain ⟨q1, q2, q3⟩ := hw; go_simp <;> with_reducible rfl
        try simp only [Act.put, List.setIfInBounds_toArray, List.set_cons_zero, List.set_cons_succ]
        refine rgs_t (v := ?_) (some 42) 6 (by kernel_rfl) rfl rfl (by assumption) (.inl ⟨by rfl, fun w' hw => ?_⟩) ?_
        rotate_left
        · obtain ⟨q1, q2, q3⟩ := hw; go_simp <;> with_reducible rfl
        try simp only [Act.put, List.setIfInBounds_toArray, List.set_cons_zero, List.set_cons_succ]
        refine rgs_t (v := ?_) (some 43) 7 (by kernel_rfl) rfl rfl (by assumption) (.inl ⟨by rfl, fun w' hw => ?_⟩) ?_
        rotate_left
        · obtain ⟨q1, q2, q3⟩ := hw; go_simp <;> with_reducible rfl
        try simp only [Act.put, List.setIfInBounds_toArray, List.set_cons_zero, List.set_cons_succ]
        refine rgs_t (v := ?_) (some 44) 8 (by kernel_rfl) rfl rfl (by assumption) (.inl ⟨by rfl, fun w' hw => ?_⟩) ?_
        rotate_left
        · obtain ⟨q1, q2, q3⟩ := hw; go_simp <;> with_reducible rfl
        try simp only [Act.put, List.setIfInBounds_toArray, List.set_cons_zero, List.set_cons_succ]
        refine rgs_t (v := ?_) (some 45) 9 (by kernel_rfl) rfl rfl (by assumption) (.inl ⟨by rfl, fun w' hw => ?_⟩) ?_
        rotate_left
        · obtain ⟨q1, q2, q3⟩ := hw; go_simp <;> with_reducible rfl
        try simp only [Act.put, List.setIfInBounds_toArray, List.set_cons_zero, List.set_cons_succ]
        refine rgs_t (v := ?_) (some 46) 10 (by kernel_rfl) rfl rfl (by assumption) (.inl ⟨by rfl, fun w' hw => ?_⟩) ?_
        rotate_left
        · obtain ⟨q1, q2, q3⟩ := hw; go_simp <;> with_reducible rfl
        try simp only [Act.put, List.setIfInBounds_toArray, List.set_cons_zero, List.set_cons_succ]
        refine rgs_t (v := ?_) (some 47) 11 (by kernel_rfl) rfl rfl (by assumption) (.inl ⟨by rfl, fun w' hw => ?_⟩) ?_
        rotate_left
        · obtain ⟨q1, q2, q3⟩ := hw; go_simp <;> with_reducible rfl
        try simp only [Act.put, List.setIfInBounds_toArray, List.set_cons_zero, List.set_cons_succ]
        refine rgs_c 12 (by kernel_rfl) rfl (by rfl) (fun K hK => ?_)
        go_simp
        refine (HS.out _).mono ?_
        rintro e w' ⟨rfl, rfl⟩
        refine hK _ _ hS2 ?_
        clear hK K
        try simp only [Act.put, List.setIfInBounds_toArray, List.set_cons_zero, List.set_cons_succ]
        refine rgs_t (v := ?_) (some 49) 13 (by kernel_rfl) rfl rfl (by assumption) (.inl ⟨by rfl, fun w' hw => ?_⟩) ?_
        rotate_left
        · obtain ⟨q1, q2, q3⟩ := hw; go_simp <;> with_reducible rfl
        try simp only [Act.put, List.setIfInBounds_toArray, List.set_cons_zero, List.set_cons_succ]
        refine rgs_t (v := ?_) (some 50) 14 (by kernel_rfl) rfl rfl (by assumption) (.inl ⟨by rfl, fun w' hw => ?_⟩) ?_
        rotate_left
        · obtain ⟨q1, q2, q3⟩ := hw; go_simp <;> with_reducible rfl
        try simp only [Act.put, List.setIfInBounds_toArray, List.set_cons_zero, List.set_cons_succ]
        refine rgs_t (v := ?_) (some 51) 15 (by kernel_rfl) rfl rfl (by assumption) (.inl ⟨by rfl, fun w' hw => ?_⟩) ?_
        rotate_left
        · obtain ⟨q1, q2, q3⟩ := hw; go_simp <;> with_reducible rfl
        try simp only [Act.put, List.setIfInBounds_toArray, List.set_cons_zero, List.set_cons_succ]
        refine rgs_t (v := ?_) (some 52) 16 (by kernel_rfl) rfl rfl (by assumption) (.inl ⟨by rfl, fun w' hw => ?_⟩) ?_
        rotate_left
        · obtain ⟨q1, q2, q3⟩ := hw; go_simp <;> with_reducible rfl
        try simp only [Act.put, List.setIfInBounds_toArray, List.set_cons_zero, List.set_cons_succ]
        refine rgs_t (v := ?_) (some 53) 17 (by kernel_rfl) rfl rfl (by assumption) (.inl ⟨by rfl, fun w' hw => ?_⟩) ?_
        rotate_left
        · obtain ⟨q1, q2, q3⟩ := hw; go_simp <;> with_reducible rfl
        try simp only [Act.put, List.setIfInBounds_toArray, List.set_cons_zero, List.set_cons_succ]
        refine rgs_t (v := ?_) (some 54) 18 (by kernel_rfl) rfl rfl (by assumption) (.inl ⟨by rfl, fun w' hw => ?_⟩) ?_
        rotate_left
        · obtain ⟨q1, q2, q3⟩ := hw; go_simp <;> with_reducible rfl
        try simp only [Act.put, List.setIfInBounds_toArray, List.set_cons_zero, List.set_cons_succ]
        refine rgs_t (v := ?_) (some 55) 19 (by kernel_rfl) rfl rfl (by assumption) (.inl ⟨by rfl, fun w' hw => ?_⟩) ?_
        rotate_left
        · obtain ⟨q1, q2, q3⟩ := hw; go_simp <;> with_reducible rfl
        try simp only [Act.put, List.setIfInBounds_toArray, List.set_cons_zero, List.set_cons_succ]
        refine rgs_t (v := ?_) (some 56) 20 (by kernel_rfl) rfl rfl (by assumption) (.inl ⟨by rfl, fun w' hw => ?_⟩) ?_
        rotate_left
        · obtain ⟨q1, q2, q3⟩ := hw; go_simp <;> with_reducible rfl
        try simp only [Act.put, List.setIfInBounds_toArray, List.set_cons_zero, List.set_cons_succ]
        refine rgs_t (v := ?_) (some 57) 21 (by kernel_rfl) rfl rfl (by assumption) (.inl ⟨by rfl, fun w' hw => ?_⟩) ?_
        rotate_left
        · obtain ⟨q1, q2, q3⟩ := hw; go_simp <;> with_reducible rfl
        try simp only [Act.put, List.setIfInBounds_toArray, List.set_cons_zero, List.set_cons_succ]
        refine rgs_t (v := ?_) (some 58) 22 (by kernel_rfl) rfl rfl (by assumption) (.inl ⟨by rfl, fun w' hw => ?_⟩) ?_
        rotate_left
        · obtain ⟨q1, q2, q3⟩ := hw; go_simp <;> with_reducible rfl
        try simp only [Act.put, List.setIfInBounds_toArray, List.set_cons_zero, List.set_cons_succ]
        refine rgs_t (v := ?_) (some 59) 23 (by kernel_rfl) rfl rfl (by assumption) (.inl ⟨by rfl, fun w' hw => ?_⟩) ?_
        rotate_left
        · obtain ⟨q1, q2, q3⟩ := hw; go_simp <;> with_reducible rfl
        try simp only [Act.put, List.setIfInBounds_toArray, List.set_cons_zero, List.set_cons_succ]
        refine rgs_t (some 60) 24 (by kernel_rfl) rfl rfl (by assumption) (.inr ⟨by rfl, rfl⟩) ?_
        try simp only [Act.put, List.setIfInBounds_toArray, List.set_cons_zero, List.set_cons_succ]
        refine rgs_t (some 61) 25 (by kernel_rfl) rfl rfl (by assumption) (.inr ⟨by rfl, rfl⟩) ?_
        try simp only [Act.put, List.setIfInBounds_toArray, List.set_cons_zero, List.set_cons_succ]
        refine rgs_t (some 62) 26 (by kernel_rfl) rfl rfl (by assumption) (.inr ⟨by rfl, rfl⟩) ?_
        try simp only [Act.put, List.setIfInBounds_toArray, List.set_cons_zero, List.set_cons_succ]
        refine rgs_t (some 63) 27 (by kernel_rfl) rfl rfl (by assumption) (.inr ⟨by rfl, rfl⟩) ?_
        try simp only [Act.put, List.setIfInBounds_toArray, List.set_cons_zero, List.set_cons_succ]
        refine rgs_t (v := ?_) (some 64) 28 (by kernel_rfl) rfl rfl (by assumption) (.inl ⟨by rfl, fun w' hw => ?_⟩) ?_
        rotate_left
        · obtain ⟨q1, q2, q3⟩ := hw; go_simp <;> with_reducible rfl
        try simp only [Act.put, List.setIfInBounds_toArray, List.set_cons_zero, List.set_cons_succ]
        refine rgs_c 29 (by kernel_rfl) rfl (by rfl) (fun K hK => ?_)
        go_simp
        refine (HO.out _).mono ?_
        rintro e w3 ⟨rfl, hb3⟩
        have k3 : ∀ b o, b < wr.heap.size → w3.cell? ⟨b, o, none⟩ = wr.cell? ⟨b, o, none⟩ := (fun b o h => (hb3.cell (p := ⟨b, o, none⟩) (Nat.lt_of_lt_of_le h hb2.size)).trans (K2.out b o h))
        have K3 := Lib.hid k3
        clear k3
        have hS3 : (∀ i, w3.cell? ⟨g, i, none⟩ = (#[.int .i64 (1 + r0), .int .i64 0, .int .i64 n, .int .i64 0, .int .i64 0] : Array Value)[i]?) ∧ True ∧ True := ⟨fun i => (K3.out g i hgW).trans (HG.out.1 i), trivial, trivial⟩
        refine hK _ _ hS3 ?_
        clear hK K
        try simp only [Act.put, List.setIfInBounds_toArray, List.set_cons_zero, List.set_cons_succ]
        refine rgs_c 30 (by kernel_rfl) rfl (by rfl) (fun K hK => ?_)
        go_simp
        refine (HF.out _ ((HB0.out.drew.below hb2).below hb3)).mono ?_
        rintro e w4 ⟨rfl, hf4⟩
        have k4 : ∀ b o, b < wr.heap.size → b ≠ w.heap.size → w4.cell? ⟨b, o, none⟩ = wr.cell? ⟨b, o, none⟩ := (fun b o h hne => (cells_one hf4.gr (Nat.lt_of_lt_of_le h (Nat.le_trans hb2.size hb3.size)) hne o).trans (K3.out b o h))
        have K4 := Lib.hid k4
        clear k4
        have hS4 : (∀ i, w4.cell? ⟨g, i, none⟩ = (#[.int .i64 (1 + r0), .int .i64 0, .int .i64 n, .int .i64 0, .int .i64 0] : Array Value)[i]?) ∧ True ∧ True := ⟨fun i => (K4.out g i hgW hgs').trans (HG.out.1 i), trivial, trivial⟩
        refine hK _ _ hS4 ?_
        clear hK K
        try simp only [Act.put, List.setIfInBounds_toArray, List.set_cons_zero, List.set_cons_succ]
        refine rgs_t (v := ?_) (some 67) 31 (by kernel_rfl) rfl rfl (by assumption) (.inl ⟨by rfl, fun w' hw => ?_⟩) ?_
        rotate_left
        · obtain ⟨q1, q2, q3⟩ := hw; go_simp <;> with_reducible rfl
        try simp only [Act.put, List.setIfInBounds_toArray, List.set_cons_zero, List.set_cons_succ]
        refine rgs_t (v := ?_) (some 68) 32 (by kernel_rfl) rfl rfl (by assumption) (.inl ⟨by rfl, fun w' hw => ?_⟩) ?_
        rotate_left
        · obtain ⟨q1, q2, q3⟩ := hw; go_simp <;> with_reducible rfl
        try simp only [Act.put, List.setIfInBounds_toArray, List.set_cons_zero, List.set_cons_succ]
        refine rgs_d (by kernel_rfl) ?_
        have k4 := K4.out
        clear K2 K3 K4 hS0 hS2 hS3 hS4
        obtain ⟨hB4, hg4⟩ := hf4
        obtain ⟨hstep, hz⟩ := HST.out
        have hB4' : sBox w4 w.heap.size (1 + r0) a b z ((k + 1 : Nat) : Int) := hB4
        have hs4 : wr.heap.size ≤ w4.heap.size := Nat.le_trans hb2.size (Nat.le_trans hb3.size hg4.size)
        have hbw4 : Below w.heap.size w w4 := below_one (((below_drew hbw).trans (hb2.mono hbw.size)).trans (hb3.mono (Nat.le_trans hbw.size hb2.size))) hg4 (Nat.le_refl _) (Nat.le_trans hbw.size (Nat.le_trans hb2.size hb3.size))
        have e0 : w4.cell? ⟨g, 0, none⟩ = some (.int .i64 (1 + r0)) := (k4 g 0 hgW hgs').trans d0
        have e1 : w4.cell? ⟨g, 1, none⟩ = some (.int .i64 0) := (k4 g 1 hgW hgs').trans d1
        have e2 : w4.cell? ⟨g, 2, none⟩ = some (.int .i64 n) := (k4 g 2 hgW hgs').trans d2
        have e3 : w4.cell? ⟨g, 3, none⟩ = some (.int .i64 0) := (k4 g 3 hgW hgs').trans d3
        have e4 : w4.cell? ⟨g, 4, none⟩ = some (.int .i64 0) := (k4 g 4 hgW hgs').trans d4
        have HB4 := Lib.hid (hB4'.alloc' (.cells #[.int .i64 (1 + r0), .int .i64 0, .int .i64 n, .int .i64 0, .int .i64 0] 30))
        have HFS := Lib.hid hstep
        have hbd : 0 ≤ a ∧ a ≤ 3000 ∧ 0 ≤ b ∧ b ≤ 3000 := by obtain ⟨x1, x2, x3, x4, _⟩ := hstep; omega
        obtain ⟨p0, p1, p2, p3⟩ := hbd
        have hbw5 := ext_alloc hbw4 (.cells #[.int .i64 (1 + r0), .int .i64 0, .int .i64 n, .int .i64 0, .int .i64 0] 30)
        have hws : w.heap.size < w4.heap.size := by omega
        clear hB4 hB4' hg4 hb2 hb3 k4 HV HO HF HST hstep HFJ HNN d0 d1 d2 d3 d4 HB HG HB0
        rcases hz with rfl | rfl
        · obtain ⟨n', hn'⟩ : ∃ n', mqn a b ((k + 1 : Nat) : Int) = n' := ⟨_, rfl⟩
          have HX := Lib.hid (mqNext_open w.heap.size (1 + r0) a b ((k + 1 : Nat) : Int) n' _ HB4.out p0 p1 p2 p3 hn')
          have HN' := Lib.hid hn'
          clear hn'
          go_wp2_with fail
          refine HX.out.mono ?_
          rintro e w5 ⟨rfl, hb5⟩
          have hG5 := Box.set5 (b0 := .int .i64 (1 + r0)) (b1 := .int .i64 0) (b2 := .int .i64 n') (b3 := .int .i64 0) (b4 := .int .i64 0) (Box.new hb5)
          have hB5 := (((((HB4.out.below hb5).other (g := w4.heap.size) (k := 0) (v := .int .i64 (1 + r0)) (by omega)).other (g := w4.heap.size) (k := 1) (v := .int .i64 0) (by omega)).other (g := w4.heap.size) (k := 2) (v := .int .i64 n') (by omega)).other (g := w4.heap.size) (k := 3) (v := .int .i64 0) (by omega)).other (g := w4.heap.size) (k := 4) (v := .int .i64 0) (by omega)
          have hbw6 : Below w.heap.size w w5 := hbw5.trans (hb5.mono hbw5.size)
          have hgg : w.heap.size ≤ w4.heap.size := by omega
          have hend : FH w _ w4.heap.size (1 + r0) L (1 + r1) B (k + 1) true := ⟨a, b, 0, 1 + r0, n', hB5, hG5, hws, HFS.out, .inl ⟨rfl, rfl, rfl, HN'.out⟩, ((((hbw6.setCell hgg _).setCell hgg _).setCell hgg _).setCell hgg _).setCell hgg _⟩
          have HE := Lib.hid hend
          obtain ⟨qg, zg, lg⟩ := Box.new hb5
          clear hend hG5 hB5 hbw6 hb5 hbw5 hbw4 HX
          go_wp2
          exact ⟨⟨k + 1, w4.heap.size, true, by go_num, rfl, rfl, by omega, HE.out⟩, by simp [intOf]; omega⟩
        · have HX := Lib.hid (mqNext_done w.heap.size (1 + r0) a b 2 ((k + 1 : Nat) : Int) _ HB4.out (by omega))
          go_wp2_with fail
          refine HX.out.mono ?_
          rintro e w5 ⟨rfl, hb5⟩
          have hG5 := Box.set5 (b0 := .int .i64 0) (b1 := .int .i64 0) (b2 := .int .i64 0) (b3 := .int .i64 0) (b4 := .int .i64 0) (Box.new hb5)
          have hB5 := (((((HB4.out.below hb5).other (g := w4.heap.size) (k := 0) (v := .int .i64 0) (by omega)).other (g := w4.heap.size) (k := 1) (v := .int .i64 0) (by omega)).other (g := w4.heap.size) (k := 2) (v := .int .i64 0) (by omega)).other (g := w4.heap.size) (k := 3) (v := .int .i64 0) (by omega)).other (g := w4.heap.size) (k := 4) (v := .int .i64 0) (by omega)
          have hbw6 : Below w.heap.size w w5 := hbw5.trans (hb5.mono hbw5.size)
          have hgg : w.heap.size ≤ w4.heap.size := by omega
          have hend : FH w _ w4.heap.size (1 + r0) L (1 + r1) B (k + 1) false := ⟨a, b, 2, 0, 0, hB5, hG5, hws, HFS.out, .inr ⟨rfl, rfl⟩, ((((hbw6.setCell hgg _).setCell hgg _).setCell hgg _).setCell hgg _).setCell hgg _⟩
          have HE := Lib.hid hend
          obtain ⟨qg, zg, lg⟩ := Box.new hb5
          clear hend hG5 hB5 hbw6 hb5 hbw5 hbw4 HX
          go_wp2
          exact ⟨⟨k + 1, w4.heap.size, false, by go_num, rfl, rfl, by omega, HE.out⟩, by simp [intOf]; omega⟩
    · have hmost : mres 2 lo = 1 + r1 := by
        obtain ⟨x1, x2, x3, x4, x5, x6 | x6⟩ := hfj
        · omega
        · simp [mres]; omega
      clear hB hG hfj
      go_wp2_with fail
      refine (mqResult_any w.heap.size (1 + r0) lo hi 2 k wr HB.out (1 + r1) hmost).mono ?_
      rintro e w3 ⟨rfl, m3, rfl⟩
      go_wp2_with fail
      refine (awake_any _).mono ?_
      rintro e w4 ⟨rfl, hb4⟩
      go_wp2_with fail
      refine (mqQueries_any w.heap.size (1 + r0) lo hi 2 k _ ((HB.out.drewN m3).below hb4)).mono ?_
      rintro e w' ⟨rfl, rfl⟩
      go_wp2
      go_ret
      exact ⟨rfl, ext_trans (below_drewN hbw m3) hb4⟩
theorem findsI (t m : Int) (l : List Bool) (A : Option Addr) (c : Nat) (w : World) (hr : Rd w w.heap.size 1 A l.length (l.map fun x => [Value.bool x]).flatten) (hlc : l.length ≤ c) (hc : c ≤ maxLen) :
    Calls Try.prog 6 #[.int .i64 t, .int .i64 m, .slice A l.length c] w fun e w' => e = .returned (.bool true) ∧ Below w.heap.size w w' :=
  lawFinds_any t m l A c w (by rwa [flatten_one] at hr) (by omega)
end Go.Proofs.Ytipcnpnfdoainaa

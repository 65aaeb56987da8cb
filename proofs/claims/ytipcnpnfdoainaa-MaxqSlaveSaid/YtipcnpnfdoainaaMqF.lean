/- Layer 24: Feed, Result, Queries of maxq; the reference's Search. -/
import Derived.Test.YtipcnpnfdoainaaMq
set_option linter.unusedVariables false
set_option linter.unusedSimpArgs false
namespace Go.Proofs.Ytipcnpnfdoainaa
open Go.RowKit

/-- 'Feed': what the box holds behind it. -/
def Fed (w : World) (b : Nat) (t lo hi st q : Int) (w' : World) : Prop := sBox w' b t lo hi st q ∧ w.grownBy w' (some b)


/-- The four ways of an outcome, and what the search holds behind it. -/
theorem mcases {V E lo hi q lo' hi' st' : Int} (hf : mfeed V E lo hi q = (lo', hi', st')) :
    ((V = 1 ∨ (V = 2 ∧ E = 2)) ∧ lo' = mqn lo hi q ∧ hi' = hi ∧ ((hi = lo' + 1 ∧ st' = 2) ∨ ((hi == lo' + 1) = false ∧ st' = 0))) ∨
    (q = 0 ∧ V = 2 ∧ E = 1 ∧ lo' = lo ∧ hi' = hi ∧ st' = 5) ∨
    ((q == 0) = false ∧ V = 2 ∧ E = 3 ∧ lo' = lo ∧ hi' = mqn lo hi q ∧ ((hi' = lo + 1 ∧ st' = 2) ∨ ((hi' == lo + 1) = false ∧ st' = 0))) ∨
    (lo' = lo ∧ hi' = hi ∧ st' = 4 ∧ (((V == 1) = false ∧ (V == 2) = false) ∨ (V = 2 ∧ (E == 1) = false ∧ (E == 2) = false ∧ (E == 3) = false) ∨ (V = 2 ∧ E = 1 ∧ (q == 0) = false) ∨ (V = 2 ∧ E = 3 ∧ q = 0))) := by
  unfold mfeed at hf
  split at hf
  · rename_i h
    simp only [Prod.mk.injEq] at hf
    obtain ⟨rfl, rfl, rfl⟩ := hf
    refine .inl ⟨h, rfl, rfl, ?_⟩
    split
    · exact .inl ⟨‹_›, rfl⟩
    · exact .inr ⟨by simpa using ‹¬ _›, rfl⟩
  · rename_i h0
    split at hf
    · rename_i h
      simp only [Prod.mk.injEq] at hf
      obtain ⟨rfl, rfl, rfl⟩ := hf
      exact .inr (.inl ⟨h.1, h.2.1, h.2.2, rfl, rfl, rfl⟩)
    · rename_i h1
      split at hf
      · rename_i h
        simp only [Prod.mk.injEq] at hf
        obtain ⟨rfl, rfl, rfl⟩ := hf
        refine .inr (.inr (.inl ⟨by simpa using h.1, h.2.1, h.2.2, rfl, rfl, ?_⟩))
        split
        · exact .inl ⟨‹_›, rfl⟩
        · exact .inr ⟨by simpa using ‹¬ _›, rfl⟩
      · rename_i h2
        simp only [Prod.mk.injEq] at hf
        obtain ⟨rfl, rfl, rfl⟩ := hf
        refine .inr (.inr (.inr ⟨rfl, rfl, rfl, ?_⟩))
        simp only [beq_eq_false_iff_ne, ne_eq]
        by_cases v1 : V = 1
        · exact absurd (.inl v1) h0
        by_cases v2 : V = 2
        · by_cases e2 : E = 2
          · exact absurd (.inr ⟨v2, e2⟩) h0
          by_cases e1 : E = 1
          · exact .inr (.inr (.inl ⟨v2, e1, fun h => h1 ⟨h, v2, e1⟩⟩))
          by_cases e3 : E = 3
          · by_cases hq : q = 0
            · exact .inr (.inr (.inr ⟨v2, e3, hq⟩))
            · exact absurd ⟨hq, v2, e3⟩ h2
          · exact .inr (.inl ⟨v2, e1, e2, e3⟩)
        · exact .inl ⟨v1, v2⟩

theorem mqn_bd {lo hi q n : Int} (h : mqn lo hi q = n) (h0 : 0 ≤ lo) (h1 : lo ≤ 3000) (h2 : 0 ≤ hi) (h3 : hi ≤ 3000) : 0 ≤ n ∧ n ≤ 3000 := by
  subst h; unfold mqn; split <;> omega

set_option maxRecDepth 100000 in
set_option maxHeartbeats 1000000 in
theorem mqFeed_acc (b : Nat) (t lo hi q lo' hi' st' : Int) (V F E C L N : Int) (M : Bool) (dA oA : Option Addr) (dn dc on oc : Nat) (w : World) (hB : sBox w b t lo hi 0 q) (h0 : 0 ≤ lo) (h1 : lo ≤ 3000) (h2 : 0 ≤ hi) (h3 : hi ≤ 3000) (hq0 : 0 ≤ q) (hq1 : q ≤ 3000)
    (hv : V = 1 ∨ (V = 2 ∧ E = 2)) (hn : mqn lo hi q = lo') (hhi : hi = hi') (hs : (hi = lo' + 1 ∧ st' = 2) ∨ ((hi == lo' + 1) = false ∧ st' = 0)) :
    Calls Try.prog 16 #[.pointer (some ⟨b, 0, none⟩), .agg #[.int .i64 V, .int .i64 F, .int .i64 E, .slice dA dn dc, .int .i64 C, .int .i64 L, .bool M, .int .i64 N, .slice oA on oc]] w fun e w' =>
      e = .returned (.int .i64 0) ∧ Fed w b t lo' hi' st' (q + 1) w' := by
  have hl : b ≠ w.heap.size := by have := hB.2.2; omega
  have hl2 : w.heap.size ≠ b := by omega
  have HA := Lib.hid (fun o => hB.alloc' o)
  have HL := Lib.hid hB.2.2
  have HQ := Lib.hid (fun (W : World) (hW : sBox W b t lo hi 0 q) (n : Int) (hn : mqn lo hi q = n) (k : Nat) => quantity_any b t lo hi 0 q n (W.drewN k) (hW.drewN k) h0 h1 h2 h3 hn)
  have HD := Lib.hid (fun (n : Int) (hn : mqn lo hi q = n) => mqn_bd hn h0 h1 h2 h3)
  obtain ⟨q0, z0, l0⟩ := hB
  subst hhi
  obtain ⟨n0, n1⟩ := HD.out lo' hn
  have HN := Lib.hid hn
  clear hn HD
  have HV := Lib.hid hs
  clear hs
  rcases hv with rfl | ⟨rfl, rfl⟩
  all_goals
    by_cases he : hi = lo' + 1
    · obtain rfl : st' = 2 := by rcases HV.out with h | h; exact h.2; simp [he] at h
      clear HV
      subst he
      go_enter Try.func16, Try.ntmps16
      go_wp2_with fail
      go_quiet ((go_at_call 28; exact Calls.quiet_of (HQ.out _ (HA.out _) lo' HN.out _)))
      go_wp2
      go_quiet (fail)
      go_wp2
      go_ret
      exact ⟨rfl, (((HA.out _).set (k := 4) (by simp) rfl).set (k := 1) (by simp) rfl).set (k := 3) (by simp) rfl, one_set (one_drewN (one_set (one_set (one_drewN (one_alloc (one_refl _ _) _) _) _ _) _ _) _) _ _⟩
    · obtain rfl : st' = 0 := by rcases HV.out with h | h; exact absurd h.1 he; exact h.2
      clear HV
      have he' : (hi == lo' + 1) = false := by simpa using he
      clear he
      go_enter Try.func16, Try.ntmps16
      go_wp2_with fail
      go_quiet ((go_at_call 28; exact Calls.quiet_of (HQ.out _ (HA.out _) lo' HN.out _)))
      go_wp2
      go_quiet (fail)
      go_wp2
      go_ret
      exact ⟨rfl, ((HA.out _).set (k := 4) (by simp) rfl).set (k := 1) (by simp) rfl, one_drewN (one_set (one_set (one_drewN (one_alloc (one_refl _ _) _) _) _ _) _ _) _⟩

set_option maxRecDepth 100000 in
set_option maxHeartbeats 1000000 in
theorem mqFeed_val (b : Nat) (t lo hi q lo' hi' st' : Int) (V F E C L N : Int) (M : Bool) (dA oA : Option Addr) (dn dc on oc : Nat) (w : World) (hB : sBox w b t lo hi 0 q) (h0 : 0 ≤ lo) (h1 : lo ≤ 3000) (h2 : 0 ≤ hi) (h3 : hi ≤ 3000) (hq0 : 0 ≤ q) (hq1 : q ≤ 3000)
    (hqn : (q == 0) = false) (hv : V = 2) (he3 : E = 3) (hlo : lo = lo') (hn : mqn lo hi q = hi') (hs : (hi' = lo + 1 ∧ st' = 2) ∨ ((hi' == lo + 1) = false ∧ st' = 0)) :
    Calls Try.prog 16 #[.pointer (some ⟨b, 0, none⟩), .agg #[.int .i64 V, .int .i64 F, .int .i64 E, .slice dA dn dc, .int .i64 C, .int .i64 L, .bool M, .int .i64 N, .slice oA on oc]] w fun e w' =>
      e = .returned (.int .i64 0) ∧ Fed w b t lo' hi' st' (q + 1) w' := by
  have hl : b ≠ w.heap.size := by have := hB.2.2; omega
  have hl2 : w.heap.size ≠ b := by omega
  have HA := Lib.hid (fun o => hB.alloc' o)
  have HL := Lib.hid hB.2.2
  have HQ := Lib.hid (fun (W : World) (hW : sBox W b t lo hi 0 q) (n : Int) (hn : mqn lo hi q = n) (k : Nat) => quantity_any b t lo hi 0 q n (W.drewN k) (hW.drewN k) h0 h1 h2 h3 hn)
  have HD := Lib.hid (fun (n : Int) (hn : mqn lo hi q = n) => mqn_bd hn h0 h1 h2 h3)
  obtain ⟨q0, z0, l0⟩ := hB
  subst hlo hv he3
  obtain ⟨n0, n1⟩ := HD.out hi' hn
  have HN := Lib.hid hn
  clear hn HD
  have HV := Lib.hid hs
  clear hs
  by_cases he : hi' = lo + 1
  · obtain rfl : st' = 2 := by rcases HV.out with h | h; exact h.2; simp [he] at h
    clear HV
    subst he
    go_enter Try.func16, Try.ntmps16
    go_wp2_with fail
    go_quiet ((go_at_call 28; exact Calls.quiet_of (HQ.out _ (HA.out _) _ HN.out _)))
    go_wp2
    go_quiet (fail)
    go_wp2
    go_ret
    exact ⟨rfl, (((HA.out _).set (k := 4) (by simp) rfl).set (k := 2) (by simp) rfl).set (k := 3) (by simp) rfl, one_set (one_drewN (one_set (one_set (one_drewN (one_alloc (one_refl _ _) _) _) _ _) _ _) _) _ _⟩
  · obtain rfl : st' = 0 := by rcases HV.out with h | h; exact absurd h.1 he; exact h.2
    clear HV
    have he' : (hi' == lo + 1) = false := by simpa using he
    clear he
    go_enter Try.func16, Try.ntmps16
    go_wp2_with fail
    go_quiet ((go_at_call 28; exact Calls.quiet_of (HQ.out _ (HA.out _) _ HN.out _)))
    go_wp2
    go_quiet (fail)
    go_wp2
    go_ret
    exact ⟨rfl, ((HA.out _).set (k := 4) (by simp) rfl).set (k := 2) (by simp) rfl, one_drewN (one_set (one_set (one_drewN (one_alloc (one_refl _ _) _) _) _ _) _ _) _⟩

set_option maxRecDepth 100000 in
set_option maxHeartbeats 1000000 in
theorem mqFeed_end (b : Nat) (t lo hi q lo' hi' st' : Int) (V F E C L N : Int) (M : Bool) (dA oA : Option Addr) (dn dc on oc : Nat) (w : World) (hB : sBox w b t lo hi 0 q) (h0 : 0 ≤ lo) (h1 : lo ≤ 3000) (h2 : 0 ≤ hi) (h3 : hi ≤ 3000) (hq0 : 0 ≤ q) (hq1 : q ≤ 3000)
    (hlo : lo = lo') (hhi : hi = hi') (hs : (q = 0 ∧ V = 2 ∧ E = 1 ∧ st' = 5) ∨ (st' = 4 ∧ (((V == 1) = false ∧ (V == 2) = false) ∨ (V = 2 ∧ (E == 1) = false ∧ (E == 2) = false ∧ (E == 3) = false) ∨ (V = 2 ∧ E = 1 ∧ (q == 0) = false) ∨ (V = 2 ∧ E = 3 ∧ q = 0)))) :
    Calls Try.prog 16 #[.pointer (some ⟨b, 0, none⟩), .agg #[.int .i64 V, .int .i64 F, .int .i64 E, .slice dA dn dc, .int .i64 C, .int .i64 L, .bool M, .int .i64 N, .slice oA on oc]] w fun e w' =>
      e = .returned (.int .i64 0) ∧ Fed w b t lo' hi' st' (q + 1) w' := by
  have hl : b ≠ w.heap.size := by have := hB.2.2; omega
  have hl2 : w.heap.size ≠ b := by omega
  have HA := Lib.hid (fun o => hB.alloc' o)
  have HL := Lib.hid hB.2.2
  have HQ := Lib.hid (fun (W : World) (hW : sBox W b t lo hi 0 q) (n : Int) (hn : mqn lo hi q = n) (k : Nat) => quantity_any b t lo hi 0 q n (W.drewN k) (hW.drewN k) h0 h1 h2 h3 hn)
  have HD := Lib.hid (fun (n : Int) (hn : mqn lo hi q = n) => mqn_bd hn h0 h1 h2 h3)
  obtain ⟨q0, z0, l0⟩ := hB
  subst hlo hhi
  obtain ⟨n, hn⟩ : ∃ n, mqn lo hi q = n := ⟨_, rfl⟩
  obtain ⟨n0, n1⟩ := HD.out n hn
  have HN := Lib.hid hn
  clear hn HD
  by_cases hq : q = 0
  · subst hq
    rcases hs with ⟨_, rfl, rfl, rfl⟩ | ⟨rfl, ⟨v1, v2⟩ | ⟨rfl, v1, v2, v3⟩ | ⟨_, _, v1⟩ | ⟨rfl, rfl, _⟩⟩
    case inr.inr.inr.inl => simp at v1
    all_goals
      go_enter Try.func16, Try.ntmps16
      go_wp2_with fail
      go_quiet ((go_at_call 28; exact Calls.quiet_of (HQ.out _ (HA.out _) n HN.out _)))
      go_wp2
      go_ret
      exact ⟨rfl, ((HA.out _).set (k := 4) (by simp) rfl).set (k := 3) (by simp) rfl, one_set (one_set (one_drewN (one_alloc (one_refl _ _) _) _) _ _) _ _⟩
  · have hq' : (q == 0) = false := by simpa using hq
    rcases hs with ⟨v1, _⟩ | ⟨rfl, ⟨v1, v2⟩ | ⟨rfl, v1, v2, v3⟩ | ⟨rfl, rfl, _⟩ | ⟨_, _, v1⟩⟩
    case inl => exact absurd v1 hq
    case inr.inr.inr.inr => exact absurd v1 hq
    all_goals
      clear hq
      go_enter Try.func16, Try.ntmps16
      go_wp2_with fail
      go_quiet ((go_at_call 28; exact Calls.quiet_of (HQ.out _ (HA.out _) n HN.out _)))
      go_wp2
      go_ret
      exact ⟨rfl, ((HA.out _).set (k := 4) (by simp) rfl).set (k := 3) (by simp) rfl, one_set (one_set (one_drewN (one_alloc (one_refl _ _) _) _) _ _) _ _⟩

set_option maxRecDepth 100000 in
set_option maxHeartbeats 1000000 in
theorem mqFeed_any (b : Nat) (t lo hi q lo' hi' st' : Int) (V F E C L N : Int) (M : Bool) (dA oA : Option Addr) (dn dc on oc : Nat) (w : World) (hB : sBox w b t lo hi 0 q) (h0 : 0 ≤ lo) (h1 : lo ≤ 3000) (h2 : 0 ≤ hi) (h3 : hi ≤ 3000) (hq0 : 0 ≤ q) (hq1 : q ≤ 3000)
    (hf : mfeed V E lo hi q = (lo', hi', st')) :
    Calls Try.prog 16 #[.pointer (some ⟨b, 0, none⟩), .agg #[.int .i64 V, .int .i64 F, .int .i64 E, .slice dA dn dc, .int .i64 C, .int .i64 L, .bool M, .int .i64 N, .slice oA on oc]] w fun e w' =>
      e = .returned (.int .i64 0) ∧ Fed w b t lo' hi' st' (q + 1) w' := by
  rcases mcases hf with ⟨hv, hn, hh, hs⟩ | ⟨hq, hv, he, hl, hh, hs⟩ | ⟨hq, hv, he, hl, hh, hs⟩ | ⟨hl, hh, hs, hr⟩
  · exact mqFeed_acc b t lo hi q lo' hi' st' V F E C L N M dA oA dn dc on oc w hB h0 h1 h2 h3 hq0 hq1 hv hn.symm hh.symm hs
  · exact mqFeed_end b t lo hi q lo' hi' st' V F E C L N M dA oA dn dc on oc w hB h0 h1 h2 h3 hq0 hq1 hl.symm hh.symm (.inl ⟨hq, hv, he, hs⟩)
  · exact mqFeed_val b t lo hi q lo' hi' st' V F E C L N M dA oA dn dc on oc w hB h0 h1 h2 h3 hq0 hq1 hq hv he hl.symm hh.symm hs
  · exact mqFeed_end b t lo hi q lo' hi' st' V F E C L N M dA oA dn dc on oc w hB h0 h1 h2 h3 hq0 hq1 hl.symm hh.symm (.inr ⟨hs, hr⟩)
theorem mqFeed_closed (b : Nat) (t lo hi st q : Int) (V F E C L N : Int) (M : Bool) (dA oA : Option Addr) (dn dc on oc : Nat) (w : World) (hB : sBox w b t lo hi st q) (hs : st ≠ 0) :
    Calls Try.prog 16 #[.pointer (some ⟨b, 0, none⟩), .agg #[.int .i64 V, .int .i64 F, .int .i64 E, .slice dA dn dc, .int .i64 C, .int .i64 L, .bool M, .int .i64 N, .slice oA on oc]] w fun e w' =>
      e = .returned (.int .i64 12) ∧ Fed w b t lo hi st q w' := by
  have HA := Lib.hid (fun o => hB.alloc' o)
  have hs' : (st == 0) = false := by simpa using hs
  have hs2 : (st != 0) = true := by simpa using hs
  obtain ⟨q0, z0, l0⟩ := hB
  have hl : b ≠ w.heap.size := by omega
  clear hs
  go_enter Try.func16, Try.ntmps16
  go_wp2
  go_ret
  exact ⟨rfl, HA.out _, one_alloc (one_refl _ _) _⟩
/-- What 'Result' gives. -/
def mres (st lo : Int) : Int := if st = 2 then lo else 0
theorem mqResult_any (b : Nat) (t lo hi st q : Int) (w : World) (hB : sBox w b t lo hi st q) (r : Int) (hr : mres st lo = r) :
    Calls Try.prog 13 #[.pointer (some ⟨b, 0, none⟩)] w fun e w' => e = .returned (.tuple #[.int .i64 st, .int .i64 r]) ∧ ∃ m, w' = w.drewN m := by
  obtain ⟨q0, z0, l0⟩ := hB
  by_cases h : st = 2
  · subst h
    obtain rfl : lo = r := by rw [← hr, mres, if_pos rfl]
    clear hr
    go_enter Try.func13, Try.ntmps13
    go_wp2
    go_quiet (fail)
    go_wp2
    go_ret2
    exact ⟨rfl, _, rfl⟩
  · have h1 : (st == 2) = false := by simpa using h
    have h2 : (st != 2) = true := by simpa using h
    obtain rfl : 0 = r := by rw [← hr, mres, if_neg h]
    clear hr h
    go_enter Try.func13, Try.ntmps13
    go_wp2
    go_ret2
    exact ⟨rfl, 0, rfl⟩
theorem mqQueries_any (b : Nat) (t lo hi st q : Int) (w : World) (hB : sBox w b t lo hi st q) :
    Calls Try.prog 15 #[.pointer (some ⟨b, 0, none⟩)] w fun e w' => e = .returned (.int .i64 q) ∧ w = w' := by
  obtain ⟨q0, z0, l0⟩ := hB
  go_enter Try.func15, Try.ntmps15
  go_wp2
  go_ret
  exact ⟨rfl, rfl⟩
end Go.Proofs.Ytipcnpnfdoainaa

/- The law MaxqSlave: the walk. -/
import Derived.Test.YtipcnpnfdoainaaMxB
import Derived.Test.YtipcnpnfdoainaaMqG
set_option linter.unusedVariables false
set_option linter.unusedSimpArgs false
namespace Go.Proofs.Ytipcnpnfdoainaa
open Go.RowKit

/-- The search over a table that accepts up to 'most', or over one that is not supported. -/
def PM (sup : Bool) (L most : Int) (B j : Nat) (lo hi st : Int) : Prop :=
  (sup = true ∧ fj L most B j lo hi st) ∨ (sup = false ∧ lo = 0 ∧ hi = L + 1 ∧ ((j = 0 ∧ st = 0) ∨ (j = 1 ∧ st = 5)))
theorem PM_start {sup : Bool} {L most : Int} {B : Nat} (h1 : sup = true → 1 ≤ most ∧ most ≤ L) : PM sup L most B 0 0 (L + 1) 0 := by
  cases sup
  · exact .inr ⟨rfl, rfl, rfl, .inl ⟨rfl, rfl⟩⟩
  · obtain ⟨h1, h2⟩ := h1 rfl
    exact .inl ⟨rfl, by omega, by omega, by omega, by omega, by omega, .inl ⟨rfl, by simp⟩⟩
theorem PM_lt {sup : Bool} {L most : Int} {B j : Nat} {lo hi : Int} (hB : (L = 2000 ∧ B = 12) ∨ (L = 125 ∧ B = 8)) (h : PM sup L most B j lo hi 0) : j < B := by
  rcases h with ⟨_, h⟩ | ⟨_, _, _, h⟩
  · exact fj_lt hB h
  · omega
theorem PM_n {sup : Bool} {L most : Int} {B j : Nat} {lo hi : Int} (hB : (L = 2000 ∧ B = 12) ∨ (L = 125 ∧ B = 8)) (h : PM sup L most B j lo hi 0) : 1 ≤ mqn lo hi j ∧ mqn lo hi j ≤ L := by
  rcases h with ⟨_, h⟩ | ⟨_, rfl, rfl, h⟩
  · exact fj_n hB h rfl
  · obtain rfl : j = 0 := by omega
    simp [mqn]; omega
theorem PM_bd {sup : Bool} {L most : Int} {B j : Nat} {lo hi st : Int} (hB : (L = 2000 ∧ B = 12) ∨ (L = 125 ∧ B = 8)) (hm : sup = true → most ≤ L) (h : PM sup L most B j lo hi st) : 0 ≤ lo ∧ lo ≤ 3000 ∧ 0 ≤ hi ∧ hi ≤ 3000 := by
  rcases h with ⟨hs, h1, h2, h3, h4, _⟩ | ⟨_, rfl, rfl, _⟩
  · have := hm hs; omega
  · omega
/-- The verdict that the law gives a reply. -/
def verd (E : Int) : Int := if E = 0 then 1 else 2
theorem PM_step {sup : Bool} {L most : Int} {B j : Nat} {lo hi E x y z : Int} (hB : (L = 2000 ∧ B = 12) ∨ (L = 125 ∧ B = 8)) (hm : sup = true → 1 ≤ most) (h : PM sup L most B j lo hi 0) (hE : TabE sup most (mqn lo hi j) E) (hf : mfeed (verd E) E lo hi j = (x, y, z)) : PM sup L most B (j + 1) x y z := by
  rcases h with ⟨hs, h⟩ | ⟨hs, rfl, rfl, h⟩
  · have ho : mqo (mqn lo hi j) most (decide (E = 0)) = (verd E, E) := by
      rcases hE with ⟨h, _⟩ | ⟨_, h1, rfl⟩ | ⟨_, h1, rfl | rfl⟩
      · rw [hs] at h; cases h
      · rw [mqo, if_pos h1]; rfl
      · rw [mqo, if_neg (by omega)]; rfl
      · rw [mqo, if_neg (by omega)]; rfl
    exact .inl ⟨hs, (fj_step hB (hm hs) h ho hf).1⟩
  · obtain rfl : j = 0 := by omega
    rcases hE with ⟨_, rfl⟩ | ⟨h1, _⟩ | ⟨h1, _⟩
    · have e : mfeed (verd 1) 1 0 (L + 1) ((0 : Nat) : Int) = (0, L + 1, 5) := by
        rw [mfeed, if_neg (by decide), if_pos ⟨rfl, by decide, rfl⟩]
      rw [e] at hf
      simp only [Prod.mk.injEq] at hf
      obtain ⟨rfl, rfl, rfl⟩ := hf
      exact .inr ⟨hs, rfl, rfl, .inr ⟨rfl, rfl⟩⟩
    · rw [hs] at h1; cases h1
    · rw [hs] at h1; cases h1
theorem PM_end {sup : Bool} {L most : Int} {B j : Nat} {lo hi st : Int} (h : PM sup L most B j lo hi st) (hst : st ≠ 0) : (sup = true ∧ st = 2 ∧ mres st lo = most) ∨ (sup = false ∧ st = 5 ∧ mres st lo = 0) := by
  rcases h with ⟨hs, h1, h2, h3, h4, h5, h6 | h6⟩ | ⟨hs, _, _, h⟩
  · exact absurd h6.1 hst
  · refine .inl ⟨hs, h6.1, ?_⟩
    rw [mres, if_pos h6.1]; omega
  · refine .inr ⟨hs, by omega, ?_⟩
    rw [mres, if_neg (by omega)]
theorem PM_B {sup : Bool} {L most : Int} {B j : Nat} {lo hi st : Int} (hB : 1 ≤ B) (h : PM sup L most B j lo hi st) : j ≤ B := by
  rcases h with ⟨_, _, _, _, _, h, _⟩ | ⟨_, _, _, h⟩
  · exact h
  · omega
theorem sl_fold (S : Sl) : Array.foldl (fun (cs : Array Value) (x : Value × Nat) => cs.setIfInBounds x.2 x.1)
          #[Value.int IntKind.i64 0, Value.int IntKind.i64 0, Value.int IntKind.i64 0, Value.bool false,
            Value.slice none 0 0, Value.int IntKind.i64 0, Value.bool false, Value.slice none 0 0,
            Value.int IntKind.i64 0, Value.bool false, Value.slice none 0 0, Value.int IntKind.i64 0, Value.bool false,
            Value.slice none 0 0, Value.int IntKind.i64 0, Value.int IntKind.i64 0, Value.slice none 0 0,
            Value.bool false, Value.slice none 0 0]
          ((slCells S).zipIdx 0) 0 19 = slCells S := by
  unfold slCells
  simp
theorem slSmall_val {S : Sl} (h : slSmall S = true) : ∀ o ∈ S.obs, o.n ≤ 300 := by
  simp only [slSmall, objSmall, Bool.and_eq_true, decide_eq_true_eq, List.all_eq_true] at h
  exact h.1.1.1
theorem slSmall_of {S : Sl} (h : slSmall S = true) (hl : S.obs.length = S.on_) : S.sn ≤ 80 ∧ S.on_ ≤ 40 ∧ ∀ k, k < 4 → (S.tb k).n ≤ 40 := by
  simp only [slSmall, objSmall, Bool.and_eq_true, decide_eq_true_eq, all4_iff] at h
  exact ⟨h.1.2, by omega, h.2⟩
set_option maxRecDepth 100000 in
set_option maxHeartbeats 16000000 in
theorem maxqSlave_any (S : Sl) (t0 value0 : Int) (w : World) (hok : S.ok w w.heap.size) (hm : S.on_ ≤ maxLen) :
    Calls Try.prog 4 #[slV S, .int .i64 t0, .int .i64 value0] w fun e w' => e = .returned (.bool true) ∧ Below w.heap.size w w' := by
  obtain ⟨sm, hsm⟩ : ∃ z, slSmall S = z := ⟨_, rfl⟩
  have HSM := Lib.hid hsm
  have HOK := Lib.hid hok
  have HM := Lib.hid hm
  have hbS := Box.alloc_ (w := w) (cs := slCells S) (e := 54)
  have hb0 : Below w.heap.size w (w.alloc (.cells (slCells S) 54)) := (Below.refl _ _).alloc (Nat.le_refl _) _
  obtain ⟨W1, hW1⟩ : ∃ W, w.alloc (.cells (slCells S) 54) = W := ⟨_, rfl⟩
  obtain ⟨g, hg⟩ : ∃ g, w.heap.size = g := ⟨_, rfl⟩
  rw [hW1, hg] at hbS
  rw [hW1] at hb0
  have HS := Lib.hid hbS
  have HB := Lib.hid hb0
  have HW1 := Lib.hid hW1
  have HG := Lib.hid hg
  clear hsm hok hm hbS hb0 hW1 hg
  go_enter Try.func4, Try.ntmps4
  go_upto_region 1 with fail
  try rw [HW1.out]
  try rw [HG.out]
  have HLD := Lib.hid (lds_of S g W1 HS.out.1)
  have hsz : (slCells S).size = 19 := rfl
  go_wp2_with (refine wpList_ldS g (slV S) (.tmp 3) HLD.out rfl rfl (by rfl) ?_)
  rw [sl_fold]
  clear hsz
  have hb2 : Below W1.heap.size W1 (W1.alloc (.cells (slCells S) 54)) := (Below.refl _ _).alloc (Nat.le_refl _) _
  have HS2 := Lib.hid (HS.out.below hb2)
  have HB2 := Lib.hid (ext_trans HB.out hb2)
  have HSA := Lib.hid (slaves_any S W1.heap.size 1 (W1.alloc (.cells (slCells S) 54)) Box.alloc_ ((HOK.out.2.1.below HB2.out (Nat.le_refl _)).more HB2.out.size) HM.out sm HSM.out)
  obtain ⟨W2, hW2⟩ : ∃ W, W1.alloc (.cells (slCells S) 54) = W := ⟨_, rfl⟩
  rw [hW2] at HS2 HB2 HSA
  rw [hW2]
  clear hb2 hW2
  refine HSA.out.mono ?_
  rintro e w' ⟨rfl, rfl⟩
  clear HSA
  cases sm
  · go_wp2_with fail
    refine (awake_any _).mono ?_
    rintro e w3 ⟨rfl, hb3⟩
    have HF := Lib.hid (ext_trans HB2.out hb3)
    clear hb3
    go_wp2
    go_ret
    exact ⟨rfl, HF.out⟩
  · obtain ⟨hs3, hs2, hs1⟩ := slSmall_of HSM.out HOK.out.2.1.solen
    have HOKW := Lib.hid (fun (W : World) (h : Below w.heap.size w W) => show S.ok W W.heap.size from ⟨fun k hk => ((HOK.out.1 k hk).below h (Nat.le_refl _)).more h.size, (HOK.out.2.1.below h (Nat.le_refl _)).more h.size, fun o ho => ⟨((HOK.out.2.2.1 o ho).1.below h (Nat.le_refl _)).more h.size, (HOK.out.2.2.1 o ho).2⟩, (HOK.out.2.2.2.below h (Nat.le_refl _)).more h.size⟩)
    obtain ⟨sb, hsb⟩ : ∃ z, slB S = z := ⟨_, rfl⟩
    have HSV := Lib.hid (fun (W : World) (h : Below w.heap.size w W) => slave_any S W (HOKW.out W h) hs1 hs2 hs3 sb hsb)
    have HSB := Lib.hid hsb
    have HSS := Lib.hid (And.intro hs1 (And.intro hs2 hs3))
    have HLD2 := Lib.hid (lds_of S g W2 HS2.out.1)
    clear hs1 hs2 hs3 hsb
    go_wp2_with (refine wpList_ldS g (slV S) (.tmp 3) HLD2.out rfl rfl (by rfl) ?_)
    refine (HSV.out _ HB2.out).mono ?_
    rintro e w3 ⟨rfl, hb3⟩
    have HS3 := Lib.hid (HS2.out.below hb3)
    have HB3 := Lib.hid (ext_trans HB2.out hb3)
    clear hb3 HS2 HB2
    cases sb
    · go_wp2_with fail
      refine (awake_any _).mono ?_
      rintro e w4 ⟨rfl, hb4⟩
      have HF := Lib.hid (ext_trans HB3.out hb4)
      clear hb4
      go_wp2
      go_ret
      exact ⟨rfl, HF.out⟩
    · obtain ⟨r, hr⟩ : ∃ r, value0 % 65536 = r := ⟨_, rfl⟩
      obtain ⟨k, hk⟩ : ∃ k : Nat, t0 % 4 = (k : Int) := ⟨(t0 % 4).toNat, by omega⟩
      have hk4 : k < 4 := by omega
      have HMD := Lib.hid (fun W => hr ▸ mod_any value0 65536 (by omega) (by omega) W)
      have HM4 := Lib.hid (fun W => hk ▸ mod_any t0 4 (by omega) (by omega) W)
      obtain ⟨L, hL⟩ : ∃ L, mlim (1 + (k : Int)) = L := ⟨_, rfl⟩
      have hLz : slimZ (1 + (k : Int)) = L := by rw [← hL]; rfl
      have bL := mlim_pos (1 + (k : Int)) (by omega) (by omega)
      rw [hL] at bL
      obtain ⟨B, hBL⟩ : ∃ B : Nat, (L = 2000 ∧ B = 12) ∨ (L = 125 ∧ B = 8) := by
        unfold mlim at hL
        by_cases h : 1 + (k : Int) ≤ 2
        · exact ⟨12, .inl ⟨by rw [← hL, if_pos (by omega)], rfl⟩⟩
        · exact ⟨8, .inr ⟨by rw [← hL, if_neg (by omega), if_pos (by omega)], rfl⟩⟩
      have bB : B ≤ 12 := by omega
      have bB1 : 1 ≤ B := by omega
      obtain ⟨sup, hsup⟩ : ∃ z, (S.tb k).sup = z := ⟨_, rfl⟩
      obtain ⟨most, hmost⟩ : ∃ z, (S.tb k).most = z := ⟨_, rfl⟩
      have htb := (slB_of HSB.out).2.1 k hk4
      have hml : sup = true → 1 ≤ most ∧ most ≤ L := fun h => by
        rw [tbOk, hsup, h] at htb
        simp only [if_true, Bool.and_eq_true, decide_eq_true_eq, hmost] at htb
        rw [show (k : Int) + 1 = 1 + k by omega, hLz] at htb
        omega
      have hm0 : sup = false → most = 0 := fun h => by
        rw [tbOk, hsup, h] at htb
        simp only [Bool.false_eq_true, if_false, Bool.and_eq_true, decide_eq_true_eq, hmost] at htb
        exact htb.2
      have HN := Lib.hid (fun W => hL ▸ mqNew_any (1 + (k : Int)) W (by omega) (by omega))
      have HAN := Lib.hid (fun (q : Nat) (h1 : 1 ≤ q) (h2 : (q : Int) ≤ L) (W : World) (h : Below w.heap.size w W) => show Calls Try.prog 21 #[slV S, .agg #[.int .i64 (1 + (k : Int)), .int .i64 0, .int .i64 q, .int .i64 0, .int .i64 0], .int .i64 r] W fun e w' => ∃ E dA dn dc, e = .returned (rpT (1 + (k : Int)) E dA dn dc) ∧ TabE sup most q E ∧ Below W.heap.size W w' from hsup ▸ hmost ▸ answerT S (1 + (k : Int)) r k q L W (HOKW.out W h) HSS.out.1 HSS.out.2.1 HSS.out.2.2 HSB.out (by omega) hk4 hLz (by omega) h1 h2 (by omega) (by omega))
      have HML := Lib.hid hml
      have HM0 := Lib.hid hm0
      have HBL := Lib.hid hBL
      have HSUP := Lib.hid hsup
      have HMOST := Lib.hid hmost
      have e11 : IntKind.i64.wrap (1 + (k : Int)) = 1 + (k : Int) := IntWalk.i64_in _ ⟨by omega, by omega⟩
      have e12 : IntKind.i64.wrap (1 + (k : Int) - 1) = (k : Int) := by rw [IntWalk.i64_in _ ⟨by omega, by omega⟩]; omega
      obtain ⟨bL1, bL2⟩ := bL
      clear hr hk hL hLz hBL htb hml hm0 hsup hmost
      go_wp2_with fail
      refine (HM4.out _).mono ?_
      rintro e w' ⟨rfl, rfl⟩
      go_wp2_with fail
      refine (HN.out _).mono ?_
      rintro e w4 ⟨rfl, hB4, hb4⟩
      obtain ⟨gi, hgi⟩ : ∃ gi, w3.heap.size = gi := ⟨_, rfl⟩
      rw [hgi] at hB4 ⊢
      have HS4 := Lib.hid (HS3.out.below hb4)
      have HB4 := Lib.hid (ext_trans HB3.out hb4)
      have HGI := Lib.hid (show w.heap.size ≤ gi from by have := HB3.out.size; omega)
      have HGGI := Lib.hid (show g < gi from by have := HS3.out.2.2; omega)
      have HI4 := Lib.hid hB4
      clear hB4 hb4 hgi
      have HNX := Lib.hid (mqNext_open gi (1 + (k : Int)) 0 (L + 1) 0 1 w4 HI4.out (by omega) (by omega) (by omega) (by omega) (by simp [mqn]))
      go_wp2_with fail
      refine HNX.out.mono ?_
      rintro e w5 ⟨rfl, hb5⟩
      have hba := (Below.refl w5.heap.size w5).alloc (Nat.le_refl _) (.cells #[.int .i64 (1 + (k : Int)), .int .i64 0, .int .i64 1, .int .i64 0, .int .i64 0] 30)
      have HI6 := Lib.hid ((HI4.out.below hb5).below hba)
      have HS6 := Lib.hid ((HS4.out.below hb5).below hba)
      have HB6 := Lib.hid (ext_trans (ext_trans HB4.out hb5) hba)
      have HQ6 := Lib.hid (Box.alloc_ (w := w5) (cs := #[.int .i64 (1 + (k : Int)), .int .i64 0, .int .i64 1, .int .i64 0, .int .i64 0]) (e := 30))
      have HG6 := Lib.hid (show gi < w5.heap.size from Nat.lt_of_lt_of_le HI4.out.2.2 hb5.size)
      clear hb5 hba HNX
      go_wp2_with fail
      go_loopw [8, 9, 10, 11, 12] (fun nv qv ok u11 u12 x => ∃ (j : Nat) (lo hi st fq nq : Int) (bq : Nat), nv = .int .i64 j ∧ qv = .pointer (some ⟨bq, 0, none⟩) ∧ ok = .bool (decide (st = 0)) ∧ PM sup L most B j lo hi st ∧ sBox x gi (1 + (k : Int)) lo hi st j ∧ Box x bq #[.int .i64 fq, .int .i64 0, .int .i64 nq, .int .i64 0, .int .i64 0] ∧ (st = 0 → fq = 1 + (k : Int) ∧ nq = mqn lo hi j) ∧ gi < bq ∧ Box x g (slCells S) ∧ Below w.heap.size w x) (fun nv _ _ _ _ _ => B - (intOf nv).toNat)
      case atStart => exact ⟨0, 0, L + 1, 0, 1 + (k : Int), 1, w5.heap.size, rfl, rfl, rfl, PM_start HML.out, HI6.out, HQ6.out, (fun _ => ⟨rfl, by simp [mqn]⟩), HG6.out, HS6.out, HB6.out⟩
      case round =>
        obtain ⟨j, lo, hi, st, fq, nq, bq, rfl, rfl, rfl, hpm, hit, hbq, hqv, hgb, hsx, hbw⟩ := hrel
        have HQV := Lib.hid hqv
        have HBQ := Lib.hid hbq
        have HPM := Lib.hid hpm
        have HIT := Lib.hid hit
        have HSX := Lib.hid hsx
        have HBW := Lib.hid hbw
        have HGB := Lib.hid hgb
        have hjB := PM_B bB1 hpm
        clear hqv hbq hpm hit hsx hbw hgb
        by_cases hst : st = 0
        · subst hst
          obtain ⟨rfl, hnq⟩ := HQV.out rfl
          obtain ⟨hn1, hn2⟩ := PM_n HBL.out HPM.out
          have hjlt := PM_lt HBL.out HPM.out
          rw [← hnq] at hn1 hn2
          obtain ⟨qn, hq⟩ : ∃ q : Nat, nq = (q : Int) := ⟨nq.toNat, by omega⟩
          subst hq
          have HNQ := Lib.hid hnq
          have HAN2 := Lib.hid (HAN.out qn (by omega) hn2)
          have hbd := PM_bd HBL.out (fun h => (HML.out h).2) HPM.out
          have HBD := Lib.hid hbd
          clear hnq hbd
          obtain ⟨V, hV⟩ : ∃ V, slV S = V := ⟨_, rfl⟩
          rw [hV] at HAN2
          have HV := Lib.hid hV
          clear hV
          go_upto_region 11 with fail
          go_cut [11] (fun u x => ∃ (g9 : Nat) (E : Int) (dA : Option Addr) (dn dc : Nat), u = .pointer (some ⟨g9, 0, none⟩) ∧ Box x g9 (rpC (1 + (k : Int)) E (.slice dA dn dc)) ∧ TabE sup most qn E ∧ wr.heap.size ≤ g9 ∧ Below wr.heap.size wr x)
          case first =>
            have HBX := Lib.hid (below_drew (Below.refl wr.heap.size wr))
            have HQ0 := Lib.hid HSX.out.drew.1
            have hgx := HSX.out.drew.2.2
            obtain ⟨qb, zb, lb⟩ := HBQ.out.drew
            refine rgx_start (by kernel_rfl) ?_
            revert HBX HQ0 hgx qb zb lb
            generalize wr.drew = x0
            intro HBX HQ0 hgx qb zb lb
            refine rgx_t (v := V) (some 44) 0 (by kernel_rfl) rfl rfl (.inl ⟨by rfl, fun w' q => lds_run (HV.out ▸ lds_of S g w' (fun i => (q g i hgx (by simp)).trans (HQ0.out i))) rfl rfl⟩) ?_
            try simp only [Act.put, List.setIfInBounds_toArray, List.set_cons_zero, List.set_cons_succ]
            refine rgx_t (v := ?_) (some 45) 1 (by kernel_rfl) rfl rfl (.inl ⟨by rfl, fun w' q => ?_⟩) ?_
            rotate_left
            · go_simp <;> with_reducible rfl
            try simp only [Act.put, List.setIfInBounds_toArray, List.set_cons_zero, List.set_cons_succ]
            refine rgx_t (v := ?_) (some 46) 2 (by kernel_rfl) rfl rfl (.inl ⟨by rfl, fun w' q => ?_⟩) ?_
            rotate_left
            · go_simp <;> with_reducible rfl
            try simp only [Act.put, List.setIfInBounds_toArray, List.set_cons_zero, List.set_cons_succ]
            refine rgx_q (v := ?_) (some 47) 3 (by kernel_rfl) rfl rfl (by rfl) (fun w' hw K hK => ?_) ?_
            rotate_left
            · go_simp
              refine (HMD.out _).mono ?_
              rintro e x9 ⟨rfl, rfl⟩
              exact hK
            try simp only [Act.put, List.setIfInBounds_toArray, List.set_cons_zero, List.set_cons_succ]
            refine rgx_2 4 5 (by kernel_rfl) ?_ ?_
            · refine ⟨_, rfl, by rfl, fun K hK => ?_⟩
              go_simp
              refine (HAN2.out _ (ext_trans HBW.out HBX.out)).mono ?_
              rintro e x1 ⟨E, dA, dn, dc, rfl, hE, hb⟩
              have HE := Lib.hid hE
              try have HB9 := Lib.hid (HB9.out.below hb)
              have HBX := Lib.hid (ext_trans HBX.out hb)
              refine hK (fun b => False) _ _ (fun b h => .inl h) (Mem.of_below hb) ?_
              clear hb hE
              clear hK K
              try simp only [Act.put, List.setIfInBounds_toArray, List.set_cons_zero, List.set_cons_succ]
              refine rgx_1 5 (by kernel_rfl) ?_
              refine ⟨_, rfl, by rfl, fun K hK => ?_⟩
              go_simp
              obtain ⟨g9, hg9⟩ : ∃ g, x1.heap.size = g := ⟨_, rfl⟩
              obtain ⟨x2, hW⟩ : ∃ W, x1.alloc (.cells (rpC 0 0 (.slice none 0 0)) 43) = W := ⟨_, rfl⟩
              have hb : Below x1.heap.size x1 x2 := hW ▸ (Below.refl _ _).alloc (Nat.le_refl _) _
              have HB9 := Lib.hid (show Box x2 g9 (rpC 0 0 (.slice none 0 0)) from hW ▸ hg9 ▸ Box.alloc_)
              have HG9 := Lib.hid (show wr.heap.size ≤ g9 from hg9 ▸ HBX.out.size)
              rw [hW, hg9]
              have HBX := Lib.hid (ext_trans HBX.out hb)
              have hz9 : x1.heap.size ≤ g9 := Nat.le_of_eq hg9
              refine hK (fun b => False ∨ b = g9) _ _ (fun b h => by first | exact .inl h | (simp only [false_or] at h ⊢; omega)) (Mem.of_below hb) ?_
              clear hb hW hg9 hz9
              clear hK K
              try simp only [Act.put, List.setIfInBounds_toArray, List.set_cons_zero, List.set_cons_succ]
              refine rgx_1 6 (by kernel_rfl) ?_
              refine ⟨_, rfl, by rfl, fun K hK => ?_⟩
              obtain ⟨qo, zo, lo9⟩ := HB9.out
              go_simp
              have hB := box_put8 HB9.out (.int .i64 (1 + (k : Int))) (.int .i64 E) (.slice dA dn dc) (.int .i64 0) (.int .i64 0) (.bool false) (.int .i64 0) (.slice none 0 0)
              have hm := (((((((((Mem.refl (fun b => False ∨ b = g9) x2).of_set (g := g9) (k := 0) (v := .int .i64 (1 + (k : Int))) (by simp)).of_set (g := g9) (k := 1) (v := .int .i64 E) (by simp)).of_set (g := g9) (k := 2) (v := .slice dA dn dc) (by simp)).of_set (g := g9) (k := 3) (v := .int .i64 0) (by simp)).of_set (g := g9) (k := 4) (v := .int .i64 0) (by simp)).of_set (g := g9) (k := 5) (v := .bool false) (by simp)).of_set (g := g9) (k := 6) (v := .int .i64 0) (by simp)).of_set (g := g9) (k := 7) (v := .slice none 0 0) (by simp))
              have hbw := below_put8 HBX.out HG9.out (.int .i64 (1 + (k : Int))) (.int .i64 E) (.slice dA dn dc) (.int .i64 0) (.int .i64 0) (.bool false) (.int .i64 0) (.slice none 0 0)
              have HBF := Lib.hid hB
              have HWF := Lib.hid hbw
              refine hK (fun b => False ∨ b = g9) _ _ (fun b h => .inl h) hm ?_
              clear hm hB hbw qo zo lo9
              clear hK K
              try simp only [Act.put, List.setIfInBounds_toArray, List.set_cons_zero, List.set_cons_succ]
              refine rgx_d (by kernel_rfl) ?_
              go_wp2_with fail
              go_meet
              case rel => exact ⟨g9, E, dA, dn, dc, rfl, HBF.out, HE.out, HG9.out, HWF.out⟩
            · refine ⟨_, rfl, by rfl, fun K hK => ?_⟩
              go_simp
              obtain ⟨g9, hg9⟩ : ∃ g, x0.heap.size = g := ⟨_, rfl⟩
              obtain ⟨x1, hW⟩ : ∃ W, x0.alloc (.cells (rpC 0 0 (.slice none 0 0)) 43) = W := ⟨_, rfl⟩
              have hb : Below x0.heap.size x0 x1 := hW ▸ (Below.refl _ _).alloc (Nat.le_refl _) _
              have HB9 := Lib.hid (show Box x1 g9 (rpC 0 0 (.slice none 0 0)) from hW ▸ hg9 ▸ Box.alloc_)
              have HG9 := Lib.hid (show wr.heap.size ≤ g9 from hg9 ▸ HBX.out.size)
              rw [hW, hg9]
              have HBX := Lib.hid (ext_trans HBX.out hb)
              have hz9 : x0.heap.size ≤ g9 := Nat.le_of_eq hg9
              refine hK (fun b => False ∨ b = g9) _ _ (fun b h => by first | exact .inl h | (simp only [false_or] at h ⊢; omega)) (Mem.of_below hb) ?_
              clear hb hW hg9 hz9
              clear hK K
              try simp only [Act.put, List.setIfInBounds_toArray, List.set_cons_zero, List.set_cons_succ]
              refine rgx_1 4 (by kernel_rfl) ?_
              refine ⟨_, rfl, by rfl, fun K hK => ?_⟩
              go_simp
              refine (HAN2.out _ (ext_trans HBW.out HBX.out)).mono ?_
              rintro e x2 ⟨E, dA, dn, dc, rfl, hE, hb⟩
              have HE := Lib.hid hE
              try have HB9 := Lib.hid (HB9.out.below hb)
              have HBX := Lib.hid (ext_trans HBX.out hb)
              refine hK (fun b => False ∨ b = g9) _ _ (fun b h => .inl h) (Mem.of_below hb) ?_
              clear hb hE
              clear hK K
              try simp only [Act.put, List.setIfInBounds_toArray, List.set_cons_zero, List.set_cons_succ]
              refine rgx_1 6 (by kernel_rfl) ?_
              refine ⟨_, rfl, by rfl, fun K hK => ?_⟩
              obtain ⟨qo, zo, lo9⟩ := HB9.out
              go_simp
              have hB := box_put8 HB9.out (.int .i64 (1 + (k : Int))) (.int .i64 E) (.slice dA dn dc) (.int .i64 0) (.int .i64 0) (.bool false) (.int .i64 0) (.slice none 0 0)
              have hm := (((((((((Mem.refl (fun b => False ∨ b = g9) x2).of_set (g := g9) (k := 0) (v := .int .i64 (1 + (k : Int))) (by simp)).of_set (g := g9) (k := 1) (v := .int .i64 E) (by simp)).of_set (g := g9) (k := 2) (v := .slice dA dn dc) (by simp)).of_set (g := g9) (k := 3) (v := .int .i64 0) (by simp)).of_set (g := g9) (k := 4) (v := .int .i64 0) (by simp)).of_set (g := g9) (k := 5) (v := .bool false) (by simp)).of_set (g := g9) (k := 6) (v := .int .i64 0) (by simp)).of_set (g := g9) (k := 7) (v := .slice none 0 0) (by simp))
              have hbw := below_put8 HBX.out HG9.out (.int .i64 (1 + (k : Int))) (.int .i64 E) (.slice dA dn dc) (.int .i64 0) (.int .i64 0) (.bool false) (.int .i64 0) (.slice none 0 0)
              have HBF := Lib.hid hB
              have HWF := Lib.hid hbw
              refine hK (fun b => False ∨ b = g9) _ _ (fun b h => .inl h) hm ?_
              clear hm hB hbw qo zo lo9
              clear hK K
              try simp only [Act.put, List.setIfInBounds_toArray, List.set_cons_zero, List.set_cons_succ]
              refine rgx_d (by kernel_rfl) ?_
              go_wp2_with fail
              go_meet
              case rel => exact ⟨g9, E, dA, dn, dc, rfl, HBF.out, HE.out, HG9.out, HWF.out⟩
          case rest =>
            obtain ⟨g9, E, dA, dn, dc, rfl, hb9, hE, hg9, hbx⟩ := hcut
            have HB9 := Lib.hid hb9
            have HE := Lib.hid hE
            have HG9 := Lib.hid hg9
            have HIT2 := Lib.hid (HIT.out.below hbx)
            have HSX2 := Lib.hid (HSX.out.below hbx)
            have HBQ2 := Lib.hid (HBQ.out.below hbx)
            have HBW2 := Lib.hid (ext_trans HBW.out hbx)
            clear hb9 hE hg9 hbx
            obtain ⟨wa, hwa⟩ : ∃ W, W = wc := ⟨_, rfl⟩
            rw [← hwa] at HB9 HIT2 HSX2 HBQ2 HBW2
            subst hwa
            obtain ⟨q9, z9, l9⟩ := HB9.out
            go_upto_if 53 with fail
            go_cut [] (fun x => Box x wa.heap.size #[.int .i64 (verd E), .int .i64 (1 + (k : Int)), .int .i64 E, .slice dA dn dc, .int .i64 0, .int .i64 0, .bool false, .int .i64 0, .slice none 0 0] ∧ Below wa.heap.size wa x)
            case first =>
              by_cases hE0 : E = 0
              · have dE : (E != 0) = false := by simp [hE0]
                have hv : verd E = 1 := by rw [verd, if_pos hE0]
                have HVE := Lib.hid hv
                clear hv hE0
                go_wp2_with fail
                go_meet
                case rel => rw [HVE.out]; exact ⟨Box.alloc_, (Below.refl _ _).alloc (Nat.le_refl _) _⟩
              · have dE : (E != 0) = true := by simpa using hE0
                have hv : verd E = 2 := by rw [verd, if_neg hE0]
                have HVE := Lib.hid hv
                clear hv hE0
                go_wp2_with fail
                go_meet
                case rel => rw [HVE.out]; exact ⟨Box.alloc_, (Below.refl _ _).alloc (Nat.le_refl _) _⟩
            case rest =>
              obtain ⟨hbo, hbo2⟩ := hcut
              have HBO := Lib.hid hbo
              have HIT3 := Lib.hid (HIT2.out.below hbo2)
              have HSX3 := Lib.hid (HSX2.out.below hbo2)
              have HBQ3 := Lib.hid (HBQ2.out.below hbo2)
              have HBW3 := Lib.hid (ext_trans HBW2.out hbo2)
              clear hbo hbo2 q9 z9 l9
              obtain ⟨ve, hve⟩ : ∃ v, verd E = v := ⟨_, rfl⟩
              obtain ⟨x, y, z, hF⟩ : ∃ x y z, mfeed (verd E) E lo hi j = (x, y, z) := ⟨_, _, _, rfl⟩
              have hstep := PM_step HBL.out (fun h => (HML.out h).1) HPM.out (by rw [← HNQ.out]; exact HE.out) hF
              rw [hve] at hF HBO
              have HST := Lib.hid hstep
              have hbd := HBD.out
              have HFD := Lib.hid (fun (W : World) (hW : sBox W gi (1 + (k : Int)) lo hi 0 j) => mqFeed_any gi (1 + (k : Int)) lo hi j x y z ve (1 + (k : Int)) E 0 0 0 false dA none dn dc 0 0 W hW hbd.1 hbd.2.1 hbd.2.2.1 hbd.2.2.2 (by omega) (by omega) hF)
              have hbd2 := PM_bd HBL.out (fun h => (HML.out h).2) hstep
              have hnx : ∃ f1 n1 : Int, (z = 0 → f1 = 1 + (k : Int) ∧ n1 = mqn x y ((j + 1 : Nat) : Int)) ∧ ∀ W, sBox W gi (1 + (k : Int)) x y z ((j + 1 : Nat) : Int) → Calls Try.prog 11 #[.pointer (some ⟨gi, 0, none⟩)] W fun e w' => e = .returned (.tuple #[.agg #[.int .i64 f1, .int .i64 0, .int .i64 n1, .int .i64 0, .int .i64 0], .bool (decide (z = 0))]) ∧ Below W.heap.size W w' := by
                by_cases hz : z = 0
                · subst hz
                  refine ⟨1 + (k : Int), mqn x y ((j + 1 : Nat) : Int), fun _ => ⟨rfl, rfl⟩, fun W hW => ?_⟩
                  exact mqNext_open gi (1 + (k : Int)) x y ((j + 1 : Nat) : Int) _ W hW hbd2.1 hbd2.2.1 hbd2.2.2.1 hbd2.2.2.2 rfl
                · rw [decide_eq_false hz]
                  exact ⟨0, 0, fun h => absurd h hz, fun W hW => mqNext_done gi (1 + (k : Int)) x y z ((j + 1 : Nat) : Int) W hW hz⟩
              obtain ⟨f1, n1, hfn, hnx⟩ := hnx
              have HFN := Lib.hid hfn
              have HNX := Lib.hid hnx
              have d20 : decide ((20 : Int) ≤ (j : Int)) = false := by simp; omega
              have d20' : decide (20 ≤ j) = false := by simp; omega
              have kw : IntKind.i64.wrap ((j : Int) + 1) = (j : Int) + 1 := IntWalk.i64_in _ ⟨by omega, by omega⟩
              clear hve hF hstep hbd hbd2 hfn hnx
              obtain ⟨qo, zo, lo9⟩ := HBO.out
              go_wp2_with fail
              refine (HFD.out _ HIT3.out).mono ?_
              rintro e w8 ⟨rfl, hf8⟩
              obtain ⟨hi8, hg8⟩ := hf8
              have HGL := Lib.hid (show g < gi from HGGI.out)
              have HGB2 := HGB
              have HIT8 := Lib.hid (show sBox w8 gi (1 + (k : Int)) x y z ((j + 1 : Nat) : Int) from hi8)
              have HSX8 := Lib.hid (HSX3.out.grown hg8 (by have := HGGI.out; omega))
              have HBQ8 := Lib.hid (HBQ3.out.grown hg8 (by have := HGB.out; omega))
              have HBW8 := Lib.hid (HBW3.out.grown hg8 HBW3.out.size (fun i h => by injection h with h; have := HGI.out; omega))
              clear hi8 hg8 qo zo lo9
              obtain ⟨qq, zq, lq⟩ := HBQ8.out
              have hba := (Below.refl w8.heap.size w8).alloc (Nat.le_refl _) (.cells #[.int .i64 (1 + (k : Int)), .int .i64 0, .int .i64 qn, .int .i64 0, .int .i64 0] 30)
              have HIT9 := Lib.hid (HIT8.out.below hba)
              have HSX9 := Lib.hid (HSX8.out.below hba)
              have HBW9 := Lib.hid (ext_trans HBW8.out hba)
              have HNB := Lib.hid (Box.alloc_ (w := w8) (cs := #[.int .i64 (1 + (k : Int)), .int .i64 0, .int .i64 qn, .int .i64 0, .int .i64 0]) (e := 30))
              have HG8 := Lib.hid (show gi < w8.heap.size from HIT8.out.2.2)
              clear hba
              go_wp2_with fail
              refine (HNX.out _ HIT9.out).mono ?_
              rintro e w9 ⟨rfl, hb9⟩
              have HIT10 := Lib.hid (HIT9.out.below hb9)
              have HSX10 := Lib.hid (HSX9.out.below hb9)
              have HBW10 := Lib.hid (ext_trans HBW9.out hb9)
              have HNB10 := Lib.hid (HNB.out.below hb9)
              clear hb9 qq zq lq
              have hgr := (one_set (one_set (one_set (one_set (one_set (one_refl w9 w8.heap.size) 0 (.int .i64 f1)) 1 (.int .i64 0)) 2 (.int .i64 n1)) 3 (.int .i64 0)) 4 (.int .i64 0))
              have HNB11 := Lib.hid (Box.set5 (b0 := .int .i64 f1) (b1 := .int .i64 0) (b2 := .int .i64 n1) (b3 := .int .i64 0) (b4 := .int .i64 0) HNB10.out)
              have HIT11 := Lib.hid (HIT10.out.grown hgr (by have := HG8.out; omega))
              have HSX11 := Lib.hid (HSX10.out.grown hgr (by have := HG8.out; have := HGGI.out; omega))
              have HBW11 := Lib.hid (((((HBW10.out.setCell (p := ⟨w8.heap.size, 0, none⟩) HBW8.out.size (.int .i64 f1)).setCell (p := ⟨w8.heap.size, 1, none⟩) HBW8.out.size (.int .i64 0)).setCell (p := ⟨w8.heap.size, 2, none⟩) HBW8.out.size (.int .i64 n1)).setCell (p := ⟨w8.heap.size, 3, none⟩) HBW8.out.size (.int .i64 0)).setCell (p := ⟨w8.heap.size, 4, none⟩) HBW8.out.size (.int .i64 0))
              clear hgr
              obtain ⟨qn9, zn, ln⟩ := HNB10.out
              go_wp2_with fail
              go_roundw
              case rel => exact ⟨j + 1, x, y, z, f1, n1, w8.heap.size, by go_num, rfl, rfl, HST.out, HIT11.out, HNB11.out, HFN.out, HG8.out, HSX11.out, HBW11.out⟩
              case measure => simp [intOf]; omega
        · have d0 : decide (st = 0) = false := by simpa using hst
          obtain ⟨rs, hrs⟩ : ∃ z, mres st lo = z := ⟨_, rfl⟩
          have hend := PM_end HPM.out hst
          rw [hrs] at hend
          have HEND := Lib.hid hend
          have HRES := Lib.hid (mqResult_any gi (1 + (k : Int)) lo hi st j wr HIT.out rs hrs)
          rw [d0]
          clear hrs hend d0 hst
          go_wp2_with fail
          refine HRES.out.mono ?_
          rintro e w6 ⟨rfl, m6, rfl⟩
          have HSX6 := Lib.hid (HSX.out.drewN m6)
          have HBW6 := Lib.hid (below_drewN HBW.out m6)
          obtain ⟨W6, hW6⟩ : ∃ W, wr.drewN m6 = W := ⟨_, rfl⟩
          rw [hW6] at HSX6 HBW6 ⊢
          clear hW6
          obtain ⟨t1, t2, t3⟩ := sl_tb HSX6.out k hk4
          rw [HSUP.out] at t1
          rw [HMOST.out] at t3
          have hgl := HSX6.out.2.2
          have HM0 := HM0
          rcases HEND.out with ⟨hs, h2, h3⟩ | ⟨hs, h2, h3⟩
          · subst hs h2 h3
            go_wp2_with fail
            refine (awake_any _).mono ?_
            rintro e w7 ⟨rfl, hb7⟩
            have HSX7 := Lib.hid (HSX6.out.below hb7)
            have HFIN := Lib.hid (ext_trans HBW6.out hb7)
            clear hb7 t1 t2 t3 hgl
            obtain ⟨t1, t2, t3⟩ := sl_tb HSX7.out k hk4
            rw [HMOST.out] at t3
            have hgl := HSX7.out.2.2
            go_wp2
            go_ret
            exact ⟨rfl, HFIN.out⟩
          · have hm0 := HM0.out hs
            subst hs h2 h3 hm0
            go_wp2_with fail
            refine (awake_any _).mono ?_
            rintro e w7 ⟨rfl, hb7⟩
            have HSX7 := Lib.hid (HSX6.out.below hb7)
            have HFIN := Lib.hid (ext_trans HBW6.out hb7)
            clear hb7 t1 t2 t3 hgl
            obtain ⟨t1, t2, t3⟩ := sl_tb HSX7.out k hk4
            rw [HMOST.out] at t3
            have hgl := HSX7.out.2.2
            go_wp2
            go_ret
            exact ⟨rfl, HFIN.out⟩
end Go.Proofs.Ytipcnpnfdoainaa

/- The law TopWire: the walk. -/
import Derived.Test.YtoliplochipoeaaTWa
import Derived.Test.YtoliplochipoeaaTMx
import Derived.Test.YtoliplochipoeaaTUartW
import Derived.Test.YtoliplochipoeaaTReqA
import Derived.Test.YtoliplochipoeaaRegX
import Derived.Test.YtoliplochipoeaaRegG
import Derived.Test.YtoliplochipoeaaRegH
import Derived.Deep.DeepCutAuto
set_option linter.unusedVariables false
set_option linter.unusedSimpArgs false
namespace Go.Proofs.Ytoliplochipoeaa
open Go.RowKit

/-- The settings' row: setting j. -/
theorem set_cells {w : World} {B : Nat} {A : Option Addr} (h : Rd w B 2 A 24 (stCells allL)) (j : Nat) (hj : j < 24) (b p : Int) (h1 : (stCells allL)[j * 2]? = some (.int .i64 b)) (h2 : (stCells allL)[j * 2 + 1]? = some (.int .i64 p)) :
    ∃ g off, A = some ⟨g, off, none⟩ ∧ g < B ∧ w.cell? ⟨g, off + j * 2, none⟩ = some (.int .i64 b) ∧ w.cell? ⟨g, off + j * 2 + 1, none⟩ = some (.int .i64 p) := by
  obtain ⟨g, off, e, hb, hc⟩ := h.2 (by omega)
  exact ⟨g, off, e, hb, hc _ _ h1, hc _ _ h2⟩
set_option maxRecDepth 100000 in
set_option maxHeartbeats 16000000 in
theorem topWire_any (st un kd a0 b0 : Int) (is : List Int) (A2 : Option Addr) (n2 c2 : Nat) (w : World) (hr : Rd w w.heap.size 1 A2 n2 (by8 is)) (hxi : ∀ x ∈ is, 0 ≤ x ∧ x ≤ 255) (hc2 : n2 ≤ maxLen) :
    Calls Try.prog 3 #[.int .i64 st, .int .i64 un, .int .i64 kd, .int .i64 a0, .int .i64 b0, .slice A2 n2 c2] w fun e w' => e = .returned (.bool true) ∧ Below w.heap.size w w' := by
  unfold maxLen at hc2
  have hil : is.length = n2 := by have := hr.1; simpa using this
  obtain ⟨j, hj⟩ : ∃ j : Nat, st % 24 = (j : Int) := ⟨(st % 24).toNat, by omega⟩
  have hj24 : j < 24 := by omega
  obtain ⟨b, p, hs1, hs2, hp0, hp2, hval, hch0, hch1, h15, h35⟩ := set24 j hj24
  obtain ⟨r, hr1⟩ : ∃ r, un % 247 = r := ⟨_, rfl⟩
  have hr0 : 0 ≤ r ∧ r ≤ 246 := by omega
  have HM1 := Lib.hid (fun W => hj ▸ mod_any st 24 (by omega) (by omega) W)
  have HM2 := Lib.hid (fun W => hr1 ▸ mod_any un 247 (by omega) (by omega) W)
  have HS := Lib.hid (fun (W : World) (B : Nat) (A : Option Addr) (h : Rd W B 2 A 24 (stCells allL)) => set_cells h j hj24 b p hs1 hs2)
  have HI := Lib.hid (fun (W : World) (h : Below w.heap.size w W) => byte_at (hr.below h (Nat.le_refl _)) hxi)
  have HIL := Lib.hid hil
  have HP := Lib.hid (And.intro hp0 hp2)
  have HV := Lib.hid hval
  have HCH := Lib.hid (And.intro hch0 hch1)
  have H15 := Lib.hid (And.intro h15 h35)
  obtain ⟨hr00, hr01⟩ := hr0
  clear hil hj hs1 hs2 hval hch0 hch1 h15 h35 hr1 hr hxi
  go_enter Try.func3, Try.ntmps3
  go_wp2_with fail
  refine (all_any _).mono ?_
  rintro e w1 ⟨A1, c1, rfl, hown1, hb1⟩
  obtain ⟨g1, off1, rfl, hg1, k1, k2⟩ := HS.out _ _ _ (Rd.of_own hown1)
  clear hown1
  go_wp2_with fail
  refine (HM1.out _).mono ?_
  rintro e w' ⟨rfl, rfl⟩
  have HB1 := Lib.hid hb1
  have HSB := Lib.hid (Box.alloc_ (w := w1) (cs := #[.int .i64 b, .int .i64 p]) (e := 24))
  have hba := (Below.refl w1.heap.size w1).alloc (Nat.le_refl _) (.cells #[.int .i64 b, .int .i64 p] 24)
  have HB2 := Lib.hid (ext_trans hb1 hba)
  clear hb1 hba
  go_upto_region 2 with fail
  obtain ⟨gs, hgs⟩ : ∃ g, w1.heap.size = g := ⟨_, rfl⟩
  obtain ⟨W2, hW2⟩ : ∃ W, w1.alloc (.cells #[.int .i64 b, .int .i64 p] 24) = W := ⟨_, rfl⟩
  rw [hW2, hgs] at HSB
  rw [hW2] at HB2
  try rw [hW2]
  try rw [hgs]
  have HGS := Lib.hid (show w.heap.size ≤ gs by rw [← hgs]; exact HB1.out.size)
  clear hW2 hgs k1 k2 hg1 HB1
  go_wp2_with fail
  refine (HM2.out _).mono ?_
  rintro e w' ⟨rfl, rfl⟩
  have e11 : IntKind.i64.wrap (1 + r) = 1 + r := IntWalk.i64_in _ ⟨by omega, by omega⟩
  go_wp2_with fail
  refine (make_any kd a0 b0 _).mono ?_
  rintro e w3 ⟨f, a, n, c, o, rfl, hvq, hb3⟩
  have hba := (Below.refl w3.heap.size w3).alloc (Nat.le_refl _) (.cells #[.int .i64 f, .int .i64 a, .int .i64 n, .int .i64 c, .int .i64 o] 29)
  have HSB3 := Lib.hid ((HSB.out.below hb3).below hba)
  have HB3 := Lib.hid (ext_trans (ext_trans HB2.out hb3) hba)
  have HQ3 := Lib.hid (Box.alloc_ (w := w3) (cs := #[.int .i64 f, .int .i64 a, .int .i64 n, .int .i64 c, .int .i64 o]) (e := 29))
  have HVQ := Lib.hid hvq
  clear hb3 hba hvq HB2 HSB
  go_upto_region 4 with fail
  obtain ⟨gq, hgq⟩ : ∃ g, w3.heap.size = g := ⟨_, rfl⟩
  obtain ⟨W3, hW3⟩ : ∃ W, w3.alloc (.cells #[.int .i64 f, .int .i64 a, .int .i64 n, .int .i64 c, .int .i64 o] 29) = W := ⟨_, rfl⟩
  rw [hW3, hgq] at HQ3
  rw [hW3] at HSB3 HB3
  try rw [hW3]
  try rw [hgq]
  clear hW3 hgq
  obtain ⟨qq, zq, lq⟩ := HQ3.out
  obtain ⟨hbd, hl1, hl5⟩ := encL_bd HVQ.out
  obtain ⟨pdu, hpdu⟩ : ∃ l, encL f a n c o = l := ⟨_, rfl⟩
  have henc := fun W => enc_yes f a n c o HVQ.out W
  rw [hpdu] at henc hbd hl1 hl5
  have HPDU := Lib.hid hpdu
  have HBD := Lib.hid hbd
  have HENC := Lib.hid henc
  clear hbd henc hpdu
  go_wp2_with fail
  refine (HENC.out _).mono ?_
  rintro e w4 ⟨A4, m4, rfl, hm4, hR4, hb4⟩
  have HSB4 := Lib.hid (HSB3.out.below hb4)
  have HQ4 := Lib.hid (HQ3.out.below hb4)
  have HB4 := Lib.hid (ext_trans HB3.out hb4)
  have HM4 := Lib.hid hm4.symm
  rw [← hm4] at hl1 hl5
  have HR4 := Lib.hid hR4
  clear hm4 hR4 hb4 qq zq lq HSB3 HQ3 HB3
  go_wp2_with fail
  refine (aduBuild_any (1 + r) pdu A4 m4 m4 w4 (by omega) HR4.out HBD.out hl1 (by omega)).mono ?_
  rintro e w5 ⟨v5, rfl, hown5, hb5⟩
  obtain ⟨A5, c5, hv5, hc5, hm5, hR5⟩ := own_form2 hown5
  subst hv5
  have HSB5 := Lib.hid (HSB4.out.below hb5)
  have HQ5 := Lib.hid (HQ4.out.below hb5)
  have HB5 := Lib.hid (ext_trans HB4.out hb5)
  have HR5 := Lib.hid hR5
  have HC5 := Lib.hid (And.intro hc5 hm5)
  clear hown5 hR5 hb5 HSB4 HQ4 HB4 HR4 hc5 hm5
  obtain ⟨fs, hfs⟩ : ∃ l, frameL (1 + r) pdu = l := ⟨_, rfl⟩
  have hfb := frameL_bd (1 + r) pdu (by omega) HBD.out
  have hfl := frameL_len (1 + r) pdu
  rw [HM4.out] at hfl
  obtain ⟨N, hN⟩ : ∃ N, m4 + 3 = N := ⟨_, rfl⟩
  rw [hfs] at hfb hfl
  rw [hN] at hfl
  have hN1 : 1 ≤ N := by omega
  have hN8 : N ≤ 8 := by omega
  have HR6 := Lib.hid (show Rd w5 w5.heap.size 1 A5 N (by8 fs) from by rw [← hN, ← hfs]; exact HR5.out)
  obtain ⟨bf, of, hA5, hbf, _⟩ := HR6.out.2 (by omega)
  subst hA5
  have HFX := Lib.hid (fun (W : World) (h : Below w5.heap.size w5 W) => byte_at (HR6.out.below h (Nat.le_refl _)) hfb)
  have HBS := Lib.hid (bsOf_le hfb)
  have HFS := Lib.hid hfs
  have HFL := Lib.hid hfl
  have HN := Lib.hid hN
  have HFB := Lib.hid hfb
  go_upto_region 8 with fail
  try rw [hN]
  clear hfs hfb hfl hN HR5
  go_wp2_with fail
  go_loopw [19, 20] (fun v i wr => ∃ k : Nat, k ≤ N ∧ i = .int .i64 k ∧ wr.ownsRow w5.heap.size 4 1 v (posTo (ids7 is) k + 2) (([true, true] ++ lineTo (bsOf fs) (ids7 is) p k).map Value.bool) ∧ Below w5.heap.size w5 wr) (fun _ i _ => N - (intOf i).toNat)
  case atStart => exact ⟨0, by omega, rfl, World.ownsRow_lit _ _ 2 (Nat.le_refl _) (by simp [maxLen]) rfl, (Below.refl _ _).alloc (Nat.le_refl _) _⟩
  case round =>
    obtain ⟨k, hk, rfl, hown, hbw⟩ := hrel
    have hpos := pos7_le (ids7 is) (ids7_le is) k
    have hd6 := ids7_le is k
    by_cases hlt : k < N
    · go_wp2_with fail
      obtain ⟨wo, hwo⟩ : ∃ wo : World, wo = wr := ⟨_, rfl⟩
      subst hwo
      go_loopw [19, 21] (fun v j wq => ∃ i : Nat, i ≤ ids7 is k ∧ j = .int .i64 i ∧ wq.ownsRow w5.heap.size 4 1 v (posTo (ids7 is) k + 2 + i) (([true, true] ++ lineTo (bsOf fs) (ids7 is) p k ++ List.replicate i true).map Value.bool) ∧ Below w5.heap.size w5 wq) (fun _ j _ => ids7 is k - (intOf j).toNat)
      case atStart => exact ⟨0, by omega, rfl, by simpa using hown, hbw⟩
      case round =>
        obtain ⟨jj, hj, rfl, hown1, hbq⟩ := hrel
        clear hown hbw
        by_cases hlt2 : jj < ids7 is k
        · have hkn : k < n2 := by
            rcases Nat.lt_or_ge k n2 with h | h
            · exact h
            · rw [ids7, if_neg (by rw [HIL.out]; omega)] at hlt2; omega
          obtain ⟨bb, off, rfl, hby, hcell⟩ := HI.out _ (ext_trans HB5.out hbq) k hkn
          have hdy : (jj : Int) < (bsOf is k : Int) % 7 := by
            have : ids7 is k = bsOf is k % 7 := by rw [ids7, if_pos (by rw [HIL.out]; omega)]; rfl
            omega
          go_wp2_with (at_builtin; refine wpList_app (.tmp 83) (.tmp 84) 35 w5.heap.size 4 _ 1 1 _ (posTo (ids7 is) k + 2 + jj) 1 1 _ Try.underlying35 boolInfo rfl (by decide) rfl rfl rfl rfl hown1 rfl (by simp [Value.oneCell']) (by omega) (by omega) hbq.size ?_; intro v1 w1 hown2 hg1 hb1)
          refine ⟨⟨jj + 1, by omega, by go_num, ?_, hbq.trans hb1⟩, by simp [intOf]; omega⟩
          rw [List.replicate_succ', ← List.append_assoc, List.map_append]
          exact hown2
        · obtain rfl : jj = ids7 is k := by omega
          obtain ⟨b', o', e', hbx, hcx⟩ := HFX.out _ hbq k hlt
          injection e' with e'
          injection e' with e1 e2
          subst e1 e2
          obtain ⟨bv, hbv⟩ : ∃ bv, bsOf fs k = bv := ⟨_, rfl⟩
          rw [hbv] at hbx hcx
          obtain ⟨el, hel⟩ : ∃ el, encode bv p = el := ⟨_, rfl⟩
          have hlen : el.length = 11 := by rw [← hel]; exact enc_length _ _ HP.out
          have HE := Lib.hid (fun w => encode_eq bv hbx p el 11 hel hlen w)
          have hnx : ([true, true] ++ lineTo (bsOf fs) (ids7 is) p k ++ List.replicate (ids7 is k) true).map Value.bool ++ el.map Value.bool = ([true, true] ++ lineTo (bsOf fs) (ids7 is) p (k + 1)).map Value.bool := by
            rw [lineTo, hbv, hel, ← List.map_append]
            simp only [List.append_assoc]
          have HNX := Lib.hid hnx
          have hpn : posTo (ids7 is) k + 2 + ids7 is k + 11 = posTo (ids7 is) (k + 1) + 2 := by rw [posTo]; omega
          have HPN := Lib.hid hpn
          have h1b := one_bools el
          have H1 := Lib.hid h1b
          obtain ⟨g, cap, rfl, hgb, hgl⟩ := hown1.form (by omega)
          clear hbv hel hlen hnx hpn h1b hlt2
          by_cases hkn : k < n2
          · obtain ⟨b2, o2, rfl, hby, hcell⟩ := HI.out _ (ext_trans HB5.out hbq) k hkn
            have hdy : (bsOf is k : Int) % 7 ≤ (ids7 is k : Int) := by
              have : ids7 is k = bsOf is k % 7 := by rw [ids7, if_pos (by rw [HIL.out]; omega)]; rfl
              omega
            go_upto_region 16 with fail
            have HSy := Lib.hid ((HSB5.out.below hbq).drew)
            have hfy : wr.drew.cell? ⟨bf, of + k, none⟩ = some (.int .u8 bv) := hcx
            have HOy := Lib.hid (show wr.drew.ownsRow w5.heap.size 4 1 (.slice (some ⟨g, 0, none⟩) (posTo (ids7 is) k + 2 + ids7 is k) cap) _ _ from own_below hown1 (below_drew (Below.refl _ _)) (Nat.le_refl _))
            have HBy := Lib.hid (below_drew hbq)
            obtain ⟨y0, hy0⟩ : ∃ y, wr.drew = y := ⟨_, rfl⟩
            rw [hy0] at HSy hfy HOy HBy
            obtain ⟨qs, zs, ls⟩ := HSy.out
            have hng1 : ¬ (bf = g) := by omega
            have hng2 : ¬ (gs = g) := by have := HSB5.out.2.2; omega
            have hbfy : bf < y0.heap.size := by have := HBy.out.size; omega
            clear hown1 hcx
            refine rgx_start_x (X := fun b => b = g) (by kernel_rfl) ?_
            rw [hy0]
            refine rgx_t (v := ?_) (some 86) 0 (by kernel_rfl) rfl rfl (.inl ⟨by rfl, fun w' q => ?_⟩) ?_
            rotate_left
            · go_simp <;> with_reducible rfl
            try simp only [Act.put, List.setIfInBounds_toArray, List.set_cons_zero, List.set_cons_succ]
            refine rgx_t (v := ?_) (some 87) 1 (by kernel_rfl) rfl rfl (.inl ⟨by rfl, fun w' q => ?_⟩) ?_
            rotate_left
            · go_simp <;> with_reducible rfl
            try simp only [Act.put, List.setIfInBounds_toArray, List.set_cons_zero, List.set_cons_succ]
            refine rgx_t (v := ?_) (some 88) 2 (by kernel_rfl) rfl rfl (.inl ⟨by rfl, fun w' q => ?_⟩) ?_
            rotate_left
            · go_simp <;> with_reducible rfl
            try simp only [Act.put, List.setIfInBounds_toArray, List.set_cons_zero, List.set_cons_succ]
            refine rgx_t (v := ?_) (some 89) 3 (by kernel_rfl) rfl rfl (.inl ⟨by rfl, fun w' q => ?_⟩) ?_
            rotate_left
            · go_simp <;> with_reducible rfl
            try simp only [Act.put, List.setIfInBounds_toArray, List.set_cons_zero, List.set_cons_succ]
            refine rgx_t (v := ?_) (some 90) 4 (by kernel_rfl) rfl rfl (.inl ⟨by rfl, fun w' q => ?_⟩) ?_
            rotate_left
            · go_simp <;> with_reducible rfl
            try simp only [Act.put, List.setIfInBounds_toArray, List.set_cons_zero, List.set_cons_succ]
            refine rgx_t (v := ?_) (some 91) 5 (by kernel_rfl) rfl rfl (.inl ⟨by rfl, fun w' q => ?_⟩) ?_
            rotate_left
            · go_simp <;> with_reducible rfl
            try simp only [Act.put, List.setIfInBounds_toArray, List.set_cons_zero, List.set_cons_succ]
            refine rgx_t (v := ?_) (some 92) 6 (by kernel_rfl) rfl rfl (.inl ⟨by rfl, fun w' q => ?_⟩) ?_
            rotate_left
            · go_simp <;> with_reducible rfl
            try simp only [Act.put, List.setIfInBounds_toArray, List.set_cons_zero, List.set_cons_succ]
            refine rgx_1 7 (by kernel_rfl) ?_
            refine ⟨_, rfl, by rfl, fun K hK => ?_⟩
            go_simp
            refine (HE.out _).mono ?_
            rintro e x1 ⟨A9, c9, rfl, hown3, hR3, hb3⟩
            have HO9 := Lib.hid (own_below HOy.out hb3 (Nat.le_refl _))
            have HB9 := Lib.hid (ext_trans HBy.out hb3)
            have HR9 := Lib.hid hR3
            refine hK (fun b => b = g) _ _ (fun b h => .inl h) (Mem.of_below hb3) ?_
            clear hown3 hR3 hb3
            clear hK K
            try simp only [Act.put, List.setIfInBounds_toArray, List.set_cons_zero, List.set_cons_succ]
            refine rgx_1 8 (by kernel_rfl) ?_
            refine ⟨_, rfl, by rfl, fun K hK => ?_⟩
            refine wp_appO (.tmp 86) (.tmp 93) 35 w5.heap.size 4 _ 1 1 _ (posTo (ids7 is) k + 2 + ids7 is k) _ x1.heap.size A9 11 c9 _ Try.underlying35 boolInfo rfl (by decide) rfl rfl rfl HO9.out HR9.out H1.out (by omega) (by omega) HB9.out.size ?_
            intro v1 x2 hown5 hg1 hn1 hb1
            have HO10 := Lib.hid hown5
            have HB10 := Lib.hid (HB9.out.trans hb1)
            have hmem : Mem (fun b => b = g) x1 x2 := ⟨hg1.size, fun b hb hn => hg1.block b hb (fun e => hn (Option.some.inj e))⟩
            obtain ⟨A10, c10, hv10, _, _⟩ := own_form hown5
            subst hv10
            refine hK (fun b => b = g) _ _ (fun b h => .inl h) hmem ?_
            clear hown5 hg1 hn1 hb1 hmem
            clear hK K
            try simp only [Act.put, List.setIfInBounds_toArray, List.set_cons_zero, List.set_cons_succ]
            refine rgx_t (v := ?_) (some 19) 9 (by kernel_rfl) rfl rfl (.inl ⟨by rfl, fun w' q => ?_⟩) ?_
            rotate_left
            · go_simp <;> with_reducible rfl
            try simp only [Act.put, List.setIfInBounds_toArray, List.set_cons_zero, List.set_cons_succ]
            refine rgx_d (by kernel_rfl) ?_
            go_wp2_with fail
            go_roundw
            case rel =>
              refine ⟨k + 1, by omega, by go_num, ?_, HB10.out⟩
              rw [← HPN.out, ← HNX.out]
              exact HO10.out
            case measure => simp [intOf]; omega
          · go_upto_region 16 with fail
            have HSy := Lib.hid ((HSB5.out.below hbq).drew)
            have hfy : wr.drew.cell? ⟨bf, of + k, none⟩ = some (.int .u8 bv) := hcx
            have HOy := Lib.hid (show wr.drew.ownsRow w5.heap.size 4 1 (.slice (some ⟨g, 0, none⟩) (posTo (ids7 is) k + 2 + ids7 is k) cap) _ _ from own_below hown1 (below_drew (Below.refl _ _)) (Nat.le_refl _))
            have HBy := Lib.hid (below_drew hbq)
            obtain ⟨y0, hy0⟩ : ∃ y, wr.drew = y := ⟨_, rfl⟩
            rw [hy0] at HSy hfy HOy HBy
            obtain ⟨qs, zs, ls⟩ := HSy.out
            have hng1 : ¬ (bf = g) := by omega
            have hng2 : ¬ (gs = g) := by have := HSB5.out.2.2; omega
            have hbfy : bf < y0.heap.size := by have := HBy.out.size; omega
            clear hown1 hcx
            refine rgx_start_x (X := fun b => b = g) (by kernel_rfl) ?_
            rw [hy0]
            refine rgx_t (v := ?_) (some 86) 0 (by kernel_rfl) rfl rfl (.inl ⟨by rfl, fun w' q => ?_⟩) ?_
            rotate_left
            · go_simp <;> with_reducible rfl
            try simp only [Act.put, List.setIfInBounds_toArray, List.set_cons_zero, List.set_cons_succ]
            refine rgx_t (v := ?_) (some 87) 1 (by kernel_rfl) rfl rfl (.inl ⟨by rfl, fun w' q => ?_⟩) ?_
            rotate_left
            · go_simp <;> with_reducible rfl
            try simp only [Act.put, List.setIfInBounds_toArray, List.set_cons_zero, List.set_cons_succ]
            refine rgx_t (v := ?_) (some 88) 2 (by kernel_rfl) rfl rfl (.inl ⟨by rfl, fun w' q => ?_⟩) ?_
            rotate_left
            · go_simp <;> with_reducible rfl
            try simp only [Act.put, List.setIfInBounds_toArray, List.set_cons_zero, List.set_cons_succ]
            refine rgx_t (v := ?_) (some 89) 3 (by kernel_rfl) rfl rfl (.inl ⟨by rfl, fun w' q => ?_⟩) ?_
            rotate_left
            · go_simp <;> with_reducible rfl
            try simp only [Act.put, List.setIfInBounds_toArray, List.set_cons_zero, List.set_cons_succ]
            refine rgx_t (v := ?_) (some 90) 4 (by kernel_rfl) rfl rfl (.inl ⟨by rfl, fun w' q => ?_⟩) ?_
            rotate_left
            · go_simp <;> with_reducible rfl
            try simp only [Act.put, List.setIfInBounds_toArray, List.set_cons_zero, List.set_cons_succ]
            refine rgx_t (v := ?_) (some 91) 5 (by kernel_rfl) rfl rfl (.inl ⟨by rfl, fun w' q => ?_⟩) ?_
            rotate_left
            · go_simp <;> with_reducible rfl
            try simp only [Act.put, List.setIfInBounds_toArray, List.set_cons_zero, List.set_cons_succ]
            refine rgx_t (v := ?_) (some 92) 6 (by kernel_rfl) rfl rfl (.inl ⟨by rfl, fun w' q => ?_⟩) ?_
            rotate_left
            · go_simp <;> with_reducible rfl
            try simp only [Act.put, List.setIfInBounds_toArray, List.set_cons_zero, List.set_cons_succ]
            refine rgx_1 7 (by kernel_rfl) ?_
            refine ⟨_, rfl, by rfl, fun K hK => ?_⟩
            go_simp
            refine (HE.out _).mono ?_
            rintro e x1 ⟨A9, c9, rfl, hown3, hR3, hb3⟩
            have HO9 := Lib.hid (own_below HOy.out hb3 (Nat.le_refl _))
            have HB9 := Lib.hid (ext_trans HBy.out hb3)
            have HR9 := Lib.hid hR3
            refine hK (fun b => b = g) _ _ (fun b h => .inl h) (Mem.of_below hb3) ?_
            clear hown3 hR3 hb3
            clear hK K
            try simp only [Act.put, List.setIfInBounds_toArray, List.set_cons_zero, List.set_cons_succ]
            refine rgx_1 8 (by kernel_rfl) ?_
            refine ⟨_, rfl, by rfl, fun K hK => ?_⟩
            refine wp_appO (.tmp 86) (.tmp 93) 35 w5.heap.size 4 _ 1 1 _ (posTo (ids7 is) k + 2 + ids7 is k) _ x1.heap.size A9 11 c9 _ Try.underlying35 boolInfo rfl (by decide) rfl rfl rfl HO9.out HR9.out H1.out (by omega) (by omega) HB9.out.size ?_
            intro v1 x2 hown5 hg1 hn1 hb1
            have HO10 := Lib.hid hown5
            have HB10 := Lib.hid (HB9.out.trans hb1)
            have hmem : Mem (fun b => b = g) x1 x2 := ⟨hg1.size, fun b hb hn => hg1.block b hb (fun e => hn (Option.some.inj e))⟩
            obtain ⟨A10, c10, hv10, _, _⟩ := own_form hown5
            subst hv10
            refine hK (fun b => b = g) _ _ (fun b h => .inl h) hmem ?_
            clear hown5 hg1 hn1 hb1 hmem
            clear hK K
            try simp only [Act.put, List.setIfInBounds_toArray, List.set_cons_zero, List.set_cons_succ]
            refine rgx_t (v := ?_) (some 19) 9 (by kernel_rfl) rfl rfl (.inl ⟨by rfl, fun w' q => ?_⟩) ?_
            rotate_left
            · go_simp <;> with_reducible rfl
            try simp only [Act.put, List.setIfInBounds_toArray, List.set_cons_zero, List.set_cons_succ]
            refine rgx_d (by kernel_rfl) ?_
            go_wp2_with fail
            go_roundw
            case rel =>
              refine ⟨k + 1, by omega, by go_num, ?_, HB10.out⟩
              rw [← HPN.out, ← HNX.out]
              exact HO10.out
            case measure => simp [intOf]; omega
    · obtain rfl : k = N := by omega
      obtain ⟨L, hL⟩ : ∃ L, ([true, true] ++ lineTo (bsOf fs) (ids7 is) p k) ++ [true] = L := ⟨_, rfl⟩
      have hpos2 := pos_two (ids7 is) k hN1
      have hstr : streamL L p = (List.range k).map (evF (bsOf fs) (ids2 (ids7 is)) 0) := by
        rw [← hL, line_two _ _ _ k hN1]
        exact lineF_all (bsOf fs) (ids2 (ids7 is)) p p 0 HP.out HP.out HBS.out (fun b hb => dec_enc b hb p HP.out) [true] (by simp) k
      have HSTR := Lib.hid hstr
      have hrow : ([true, true] ++ lineTo (bsOf fs) (ids7 is) p k).map Value.bool ++ [.bool true] = L.map Value.bool := by rw [← hL]; simp
      have HROW := Lib.hid hrow
      obtain ⟨g, cap, rfl, hgb, hgl⟩ := hown.form (by omega)
      have HSy := Lib.hid ((HSB5.out.below hbw).drew)
      have HOy := Lib.hid (show wr.drew.ownsRow w5.heap.size 4 1 (.slice (some ⟨g, 0, none⟩) (posTo (ids7 is) k + 2) cap) _ _ from own_below hown (below_drew (Below.refl _ _)) (Nat.le_refl _))
      have HBy := Lib.hid (below_drew hbw)
      have HBR := Lib.hid (below_drew (Below.refl wr.heap.size wr))
      have HST := Lib.hid (fun (W : World) (A : Option Addr) (c : Nat) (h : Rd W W.heap.size 1 A (posTo (ids7 is) k + 2 + 1) (L.map Value.bool)) (h1 : posTo (ids7 is) k + 2 + 1 ≤ c) (h2 : c ≤ maxLen) => stream_eq L (posTo (ids7 is) k + 2 + 1) _ k A c W.heap.size p W h h1 h2 (by omega) HSTR.out (by simp))
      clear hL hstr hrow hown
      go_upto_region 17 with fail
      obtain ⟨y0, hy0⟩ : ∃ y, wr.drew = y := ⟨_, rfl⟩
      rw [hy0] at HSy HOy HBy HBR
      obtain ⟨qs, zs, ls⟩ := HSy.out
      have hng2 : ¬ (gs = g) := by have := HSB5.out.2.2; omega
      refine rgx_start_x (X := fun b => b = g) (by kernel_rfl) ?_
      rw [hy0]
      refine rgx_t (v := ?_) (some 95) 0 (by kernel_rfl) rfl rfl (.inl ⟨by rfl, fun w' q => ?_⟩) ?_
      rotate_left
      · go_simp <;> with_reducible rfl
      try simp only [Act.put, List.setIfInBounds_toArray, List.set_cons_zero, List.set_cons_succ]
      refine rgx_t (v := ?_) (some 98) 3 (by kernel_rfl) rfl rfl (.inl ⟨by rfl, fun w' q => ?_⟩) ?_
      rotate_left
      · go_simp <;> with_reducible rfl
      try simp only [Act.put, List.setIfInBounds_toArray, List.set_cons_zero, List.set_cons_succ]
      refine rgx_t (v := ?_) (some 99) 4 (by kernel_rfl) rfl rfl (.inl ⟨by rfl, fun w' q => ?_⟩) ?_
      rotate_left
      · go_simp <;> with_reducible rfl
      try simp only [Act.put, List.setIfInBounds_toArray, List.set_cons_zero, List.set_cons_succ]
      refine rgx_1 1 (by kernel_rfl) ?_
      refine ⟨_, rfl, by rfl, fun K hK => ?_⟩
      go_simp
      obtain ⟨x1, hW⟩ : ∃ W, y0.alloc (.cells #[.bool true] 4) = W := ⟨_, rfl⟩
      have hb : Below y0.heap.size y0 x1 := hW ▸ (Below.refl _ _).alloc (Nat.le_refl _) _
      obtain ⟨gl, hgl9⟩ : ∃ g, y0.heap.size = g := ⟨_, rfl⟩
      have hRl := Lib.hid (show Rd x1 x1.heap.size 1 (some ⟨gl, 0, none⟩) 1 [.bool true] from by rw [← hW, ← hgl9]; exact Rd.lit (cs := #[.bool true]) rfl (by simp))
      have HO7 := Lib.hid (own_below HOy.out hb (Nat.le_refl _))
      have HB7 := Lib.hid (ext_trans HBy.out hb)
      rw [hW, hgl9]
      refine hK (fun b => b = g) _ _ (fun b h => .inl h) (Mem.of_below hb) ?_
      clear hW hb hgl9
      clear hK K
      try simp only [Act.put, List.setIfInBounds_toArray, List.set_cons_zero, List.set_cons_succ]
      refine rgx_1 2 (by kernel_rfl) ?_
      refine ⟨_, rfl, by rfl, fun K hK => ?_⟩
      refine wp_appO (.tmp 95) (.tmp 96) 35 w5.heap.size 4 _ 1 1 _ (posTo (ids7 is) k + 2) _ x1.heap.size (some ⟨gl, 0, none⟩) 1 1 [.bool true] Try.underlying35 boolInfo rfl (by decide) rfl rfl rfl HO7.out hRl.out (by simp [Value.oneCell']) (by omega) (by omega) HB7.out.size ?_
      intro v1 x2 hown5 hg1 hn1 hb1
      rw [HROW.out] at hown5
      have HB8 := Lib.hid (HB7.out.trans hb1)
      have hmem : Mem (fun b => b = g) x1 x2 := ⟨hg1.size, fun b hb hn => hg1.block b hb (fun e => hn (Option.some.inj e))⟩
      obtain ⟨A10, c10, hv10, hlc, hcm, hR10⟩ := own_form2 hown5
      subst hv10
      have HR8 := Lib.hid hR10
      have HC8 := Lib.hid (And.intro hlc hcm)
      refine hK (fun b => b = g) _ _ (fun b h => .inl h) hmem ?_
      clear hown5 hg1 hn1 hb1 hmem hR10 hlc hcm
      clear hK K
      try simp only [Act.put, List.setIfInBounds_toArray, List.set_cons_zero, List.set_cons_succ]
      refine rgx_1 5 (by kernel_rfl) ?_
      refine ⟨_, rfl, by rfl, fun K hK => ?_⟩
      go_simp
      refine (HST.out _ A10 c10 HR8.out HC8.out.1 HC8.out.2).mono ?_
      rintro e x3 ⟨A11, c11, rfl, hown9, hb9⟩
      have HO9 := Lib.hid hown9
      have HB9 := Lib.hid (ext_trans HB8.out hb9)
      have hlo9 : w5.heap.size ≤ x2.heap.size := HB8.out.size
      refine hK (fun b => b = g) _ _ (fun b h => .inl h) (Mem.of_below hb9) ?_
      clear hown9 hb9
      clear hK K
      try simp only [Act.put, List.setIfInBounds_toArray, List.set_cons_zero, List.set_cons_succ]
      refine rgx_t (v := ?_) (some 22) 6 (by kernel_rfl) rfl rfl (.inl ⟨by rfl, fun w' q => ?_⟩) ?_
      rotate_left
      · go_simp <;> with_reducible rfl
      try simp only [Act.put, List.setIfInBounds_toArray, List.set_cons_zero, List.set_cons_succ]
      refine rgx_d (by kernel_rfl) ?_
      have hown := HO9.out
      rw [evMix_start (bsOf fs) (ids2 (ids7 is)) (charZ b p) 0 k] at hown
      obtain ⟨ge, cap2, hv, hge, hgel⟩ := hown.form (by omega)
      injection hv with hA _ hcc
      subst hA hcc
      obtain ⟨ch, hch⟩ : ∃ ch, charZ b p = ch := ⟨_, rfl⟩
      have hCH := HCH.out
      rw [hch] at hown hCH
      obtain ⟨hch0, hch1⟩ := hCH
      obtain ⟨be, hbe⟩ : ∃ be, x2.heap.size = be := ⟨_, rfl⟩
      rw [hbe] at hown hge hlo9
      have HO10 := Lib.hid hown
      have HCHR := Lib.hid (fun W => hch ▸ char_any b p W)
      have HCHE := Lib.hid hch
      have hgsl : gs < w5.heap.size := HSB5.out.2.2
      clear hown hch hbe HSTR HROW HST HOy HSy HBy HBR qs zs ls hng2 hgb hgl
      go_wp2_with fail
      go_loopw [23] (fun i wq => ∃ q : Nat, q ≤ k ∧ i = .int .i64 q ∧ wq.ownsRow be 40 3 (.slice (some ⟨ge, 0, none⟩) k c11) k (evMix (bsOf fs) (ids2 (ids7 is)) ch 0 k q) ∧ Below w5.heap.size w5 wq) (fun i _ => k - (intOf i).toNat)
      case atStart => exact ⟨0, by omega, rfl, HO10.out, HB9.out⟩
      case round =>
        obtain ⟨q, hq, rfl, hown, hbq⟩ := hrel
        have HOq := Lib.hid hown
        have HBq := Lib.hid hbq
        clear hown hbq
        by_cases hlq : q < k
        · obtain ⟨at0, hat⟩ : ∃ z : Int, ((posTo (ids2 (ids7 is)) q + ids2 (ids7 is) q + 10 : Nat) : Int) = z := ⟨_, rfl⟩
          have hatb : 0 ≤ at0 ∧ at0 ≤ 300 := by
            have h1 := pos7_le (ids7 is) (ids7_le is) q
            have h2 := ids7_le is q
            have h3 : posTo (ids2 (ids7 is)) q ≤ posTo (ids7 is) q + 2 := by
              rcases Nat.eq_zero_or_pos q with h | h
              · subst h; simp [posTo]
              · rw [pos_two _ _ h]; exact Nat.le_refl _
            have h4 : ids2 (ids7 is) q ≤ ids7 is q + 2 := by
              unfold ids2; split
              · rename_i h; subst h; exact Nat.le_refl _
              · omega
            omega
          have hd0 : wr.cell? ⟨ge, q * 3, none⟩ = some (.int .i64 at0) := by
            rw [HOq.out.cellAt _ (by omega)]
            have h := evMix_get (bsOf fs) (ids2 (ids7 is)) ch 0 k q q hlq 0 (by omega)
            rw [Nat.add_zero] at h
            rw [h, mixRow, ← hat]
            simp
          have htk := tick_eq (ids2 (ids7 is)) ch q at0 hat
          have hset := evMix_set (bsOf fs) (ids2 (ids7 is)) ch 0 k q hlq
          rw [htk] at hset
          have HSET := Lib.hid hset
          have hP0 : 0 ≤ (at0 + 1) * ch := Int.mul_nonneg (by omega) hch0
          have hP1 : (at0 + 1) * ch ≤ 301 * 10000 := Int.mul_le_mul (by omega) hch1 hch0 (by omega)
          have f1 : IntKind.i64.wrap (at0 + 1) = at0 + 1 := IntWalk.i64_in _ ⟨by omega, by omega⟩
          have f2 : IntKind.i64.wrap ((at0 + 1) * ch) = (at0 + 1) * ch := IntWalk.i64_in _ ⟨by omega, by omega⟩
          have f3 : IntKind.i64.wrap ((at0 + 1) * ch + 10) = (at0 + 1) * ch + 10 := IntWalk.i64_in _ ⟨by omega, by omega⟩
          have f4 : Int.tdiv ((at0 + 1) * ch + 10) 11 = ((at0 + 1) * ch + 10) / 11 := Int.tdiv_eq_ediv_of_nonneg (by omega)
          have f5 : IntKind.i64.wrap (((at0 + 1) * ch + 10) / 11) = ((at0 + 1) * ch + 10) / 11 := IntWalk.i64_in _ ⟨by omega, by omega⟩
          have hgeq : ge < wr.heap.size := (HOq.out.lt ge rfl).2
          obtain ⟨hatb0, hatb1⟩ := hatb
          clear hat htk hset
          go_upto_region 21 with fail
          have HOy := Lib.hid (own_below HOq.out (below_drew (Below.refl wr.heap.size wr)) (Nat.le_refl _))
          have HBy := Lib.hid (below_drew HBq.out)
          have HSy := Lib.hid ((HSB5.out.below HBq.out).drew)
          have HDy := Lib.hid (show wr.drew.cell? ⟨ge, q * 3, none⟩ = some (.int .i64 at0) from hd0)
          have hgey : ge < wr.drew.heap.size := hgeq
          have HBX := Lib.hid (Below.refl wr.drew.heap.size wr.drew)
          obtain ⟨y0, hy0⟩ : ∃ y, wr.drew = y := ⟨_, rfl⟩
          rw [hy0] at HOy HBy HSy HDy hgey HBX
          clear hd0
          refine rgx_start_all (by kernel_rfl) ?_
          rw [hy0]
          refine rgx_t (v := ?_) (some 107) 0 (by kernel_rfl) rfl rfl (.inl ⟨by rfl, fun w' q => ?_⟩) ?_
          rotate_left
          · go_simp <;> with_reducible rfl
          try simp only [Act.put, List.setIfInBounds_toArray, List.set_cons_zero, List.set_cons_succ]
          refine rgx_t (v := ?_) (some 108) 1 (by kernel_rfl) rfl rfl (.inl ⟨by rfl, fun w' q => ?_⟩) ?_
          rotate_left
          · go_simp <;> with_reducible rfl
          try simp only [Act.put, List.setIfInBounds_toArray, List.set_cons_zero, List.set_cons_succ]
          refine rgx_t (v := ?_) (some 109) 2 (by kernel_rfl) rfl rfl (.inl ⟨by rfl, fun w' q => ?_⟩) ?_
          rotate_left
          · go_simp <;> with_reducible rfl
          try simp only [Act.put, List.setIfInBounds_toArray, List.set_cons_zero, List.set_cons_succ]
          refine rgx_t (v := ?_) (some 110) 3 (by kernel_rfl) rfl rfl (.inl ⟨by rfl, fun w' q => ?_⟩) ?_
          rotate_left
          · go_simp <;> with_reducible rfl
          try simp only [Act.put, List.setIfInBounds_toArray, List.set_cons_zero, List.set_cons_succ]
          refine rgx_t (v := ?_) (some 111) 4 (by kernel_rfl) rfl rfl (.inl ⟨by rfl, fun w' q => ?_⟩) ?_
          rotate_left
          · go_simp <;> with_reducible rfl
          try simp only [Act.put, List.setIfInBounds_toArray, List.set_cons_zero, List.set_cons_succ]
          refine rgx_t (v := ?_) (some 112) 5 (by kernel_rfl) rfl rfl (.inl ⟨by rfl, fun w' q => ?_⟩) ?_
          rotate_left
          · go_simp <;> with_reducible rfl
          try simp only [Act.put, List.setIfInBounds_toArray, List.set_cons_zero, List.set_cons_succ]
          refine rgx_2 6 8 (by kernel_rfl) ?_ ?_
          · refine ⟨_, rfl, by rfl, fun K hK => ?_⟩
            have z6 := (HBX.out.cell (p := ⟨ge, q * 3, none⟩) hgey).trans HDy.out
            go_simp
            obtain ⟨x1, hE⟩ : ∃ W : World, W = y0 := ⟨_, rfl⟩
            subst hE
            refine hK (fun b => True) _ _ (fun b h => .inl h) (Mem.refl _ _) ?_
            clear z6
            clear hK K
            try simp only [Act.put, List.setIfInBounds_toArray, List.set_cons_zero, List.set_cons_succ]
            refine rgx_t (v := ?_) (some 114) 7 (by kernel_rfl) rfl rfl (.inl ⟨by rfl, fun w' q => ?_⟩) ?_
            rotate_left
            · go_simp <;> with_reducible rfl
            try simp only [Act.put, List.setIfInBounds_toArray, List.set_cons_zero, List.set_cons_succ]
            refine rgx_1 8 (by kernel_rfl) ?_
            refine ⟨_, rfl, by rfl, fun K hK => ?_⟩
            obtain ⟨qs, zs, ls⟩ := HSy.out.below HBX.out
            go_simp
            obtain ⟨x2, hE⟩ : ∃ W : World, W = x1 := ⟨_, rfl⟩
            subst hE
            refine hK (fun b => True) _ _ (fun b h => .inl h) (Mem.refl _ _) ?_
            clear qs zs ls
            clear hK K
            try simp only [Act.put, List.setIfInBounds_toArray, List.set_cons_zero, List.set_cons_succ]
            refine rgx_1 9 (by kernel_rfl) ?_
            refine ⟨_, rfl, by rfl, fun K hK => ?_⟩
            go_simp
            refine (HCHR.out _).mono ?_
            rintro e x3 ⟨rfl, hbc⟩
            have HBX := Lib.hid (ext_trans HBX.out hbc)
            refine hK (fun b => True) _ _ (fun b h => .inl h) (Mem.of_below hbc) ?_
            clear hbc
            clear hK K
            try simp only [Act.put, List.setIfInBounds_toArray, List.set_cons_zero, List.set_cons_succ]
            refine rgx_t (v := ?_) (some 117) 10 (by kernel_rfl) rfl rfl (.inl ⟨by rfl, fun w' q => ?_⟩) ?_
            rotate_left
            · go_simp <;> with_reducible rfl
            try simp only [Act.put, List.setIfInBounds_toArray, List.set_cons_zero, List.set_cons_succ]
            refine rgx_t (v := ?_) (some 118) 11 (by kernel_rfl) rfl rfl (.inl ⟨by rfl, fun w' q => ?_⟩) ?_
            rotate_left
            · go_simp <;> with_reducible rfl
            try simp only [Act.put, List.setIfInBounds_toArray, List.set_cons_zero, List.set_cons_succ]
            refine rgx_t (v := ?_) (some 119) 12 (by kernel_rfl) rfl rfl (.inl ⟨by rfl, fun w' q => ?_⟩) ?_
            rotate_left
            · go_simp <;> with_reducible rfl
            try simp only [Act.put, List.setIfInBounds_toArray, List.set_cons_zero, List.set_cons_succ]
            refine rgx_t (v := ?_) (some 120) 13 (by kernel_rfl) rfl rfl (.inl ⟨by rfl, fun w' q => ?_⟩) ?_
            rotate_left
            · go_simp <;> with_reducible rfl
            try simp only [Act.put, List.setIfInBounds_toArray, List.set_cons_zero, List.set_cons_succ]
            refine rgx_t (v := ?_) (some 121) 14 (by kernel_rfl) rfl rfl (.inl ⟨by rfl, fun w' q => ?_⟩) ?_
            rotate_left
            · go_simp <;> with_reducible rfl
            try simp only [Act.put, List.setIfInBounds_toArray, List.set_cons_zero, List.set_cons_succ]
            refine rgx_1 15 (by kernel_rfl) ?_
            refine ⟨_, rfl, by rfl, fun K hK => ?_⟩
            have hox := own_below HOy.out HBX.out (Nat.le_refl _)
            have dz : ∀ i, x3.frozen? ⟨ge, i, none⟩ = false := fun i => hox.frozenAt i
            have dl : ge < x3.heap.size := (hox.lt ge rfl).2
            have dc : x3.cell? ⟨ge, q * 3, none⟩ = some (.int .i64 at0) := (HBX.out.cell (p := ⟨ge, q * 3, none⟩) hgey).trans HDy.out
            go_simp
            have hst := (hox.stored (q * 3) (.int .i64 (((at0 + 1) * ch + 10) / 11))).1
            rw [HSET.out] at hst
            have hbf := (ext_trans HBy.out HBX.out).setCell (p := ⟨ge, q * 3, none⟩) (show w5.heap.size ≤ ge by omega) (.int .i64 (((at0 + 1) * ch + 10) / 11))
            have hm : Mem (fun b => True) x3 _ := (Mem.refl (fun b => True) x3).of_set (g := ge) (k := q * 3) (v := .int .i64 (((at0 + 1) * ch + 10) / 11)) trivial
            have HSF := Lib.hid hst
            have HBF := Lib.hid hbf
            refine hK (fun b => True) _ _ (fun b h => .inl h) hm ?_
            clear hst hbf hm hox dz dl dc
            clear hK K
            try simp only [Act.put, List.setIfInBounds_toArray, List.set_cons_zero, List.set_cons_succ]
            refine rgx_d (by kernel_rfl) ?_
            go_wp2_with fail
            go_roundw
            case rel => exact ⟨q + 1, by omega, by go_num, HSF.out, HBF.out⟩
            case measure => simp [intOf]; omega
          · refine ⟨_, rfl, by rfl, fun K hK => ?_⟩
            obtain ⟨qs, zs, ls⟩ := HSy.out.below HBX.out
            go_simp
            obtain ⟨x1, hE⟩ : ∃ W : World, W = y0 := ⟨_, rfl⟩
            subst hE
            refine hK (fun b => True) _ _ (fun b h => .inl h) (Mem.refl _ _) ?_
            clear qs zs ls
            clear hK K
            try simp only [Act.put, List.setIfInBounds_toArray, List.set_cons_zero, List.set_cons_succ]
            refine rgx_2 6 9 (by kernel_rfl) ?_ ?_
            · refine ⟨_, rfl, by rfl, fun K hK => ?_⟩
              have z6 := (HBX.out.cell (p := ⟨ge, q * 3, none⟩) hgey).trans HDy.out
              go_simp
              obtain ⟨x2, hE⟩ : ∃ W : World, W = x1 := ⟨_, rfl⟩
              subst hE
              refine hK (fun b => True) _ _ (fun b h => .inl h) (Mem.refl _ _) ?_
              clear z6
              clear hK K
              try simp only [Act.put, List.setIfInBounds_toArray, List.set_cons_zero, List.set_cons_succ]
              refine rgx_t (v := ?_) (some 114) 7 (by kernel_rfl) rfl rfl (.inl ⟨by rfl, fun w' q => ?_⟩) ?_
              rotate_left
              · go_simp <;> with_reducible rfl
              try simp only [Act.put, List.setIfInBounds_toArray, List.set_cons_zero, List.set_cons_succ]
              refine rgx_1 9 (by kernel_rfl) ?_
              refine ⟨_, rfl, by rfl, fun K hK => ?_⟩
              go_simp
              refine (HCHR.out _).mono ?_
              rintro e x3 ⟨rfl, hbc⟩
              have HBX := Lib.hid (ext_trans HBX.out hbc)
              refine hK (fun b => True) _ _ (fun b h => .inl h) (Mem.of_below hbc) ?_
              clear hbc
              clear hK K
              try simp only [Act.put, List.setIfInBounds_toArray, List.set_cons_zero, List.set_cons_succ]
              refine rgx_t (v := ?_) (some 117) 10 (by kernel_rfl) rfl rfl (.inl ⟨by rfl, fun w' q => ?_⟩) ?_
              rotate_left
              · go_simp <;> with_reducible rfl
              try simp only [Act.put, List.setIfInBounds_toArray, List.set_cons_zero, List.set_cons_succ]
              refine rgx_t (v := ?_) (some 118) 11 (by kernel_rfl) rfl rfl (.inl ⟨by rfl, fun w' q => ?_⟩) ?_
              rotate_left
              · go_simp <;> with_reducible rfl
              try simp only [Act.put, List.setIfInBounds_toArray, List.set_cons_zero, List.set_cons_succ]
              refine rgx_t (v := ?_) (some 119) 12 (by kernel_rfl) rfl rfl (.inl ⟨by rfl, fun w' q => ?_⟩) ?_
              rotate_left
              · go_simp <;> with_reducible rfl
              try simp only [Act.put, List.setIfInBounds_toArray, List.set_cons_zero, List.set_cons_succ]
              refine rgx_t (v := ?_) (some 120) 13 (by kernel_rfl) rfl rfl (.inl ⟨by rfl, fun w' q => ?_⟩) ?_
              rotate_left
              · go_simp <;> with_reducible rfl
              try simp only [Act.put, List.setIfInBounds_toArray, List.set_cons_zero, List.set_cons_succ]
              refine rgx_t (v := ?_) (some 121) 14 (by kernel_rfl) rfl rfl (.inl ⟨by rfl, fun w' q => ?_⟩) ?_
              rotate_left
              · go_simp <;> with_reducible rfl
              try simp only [Act.put, List.setIfInBounds_toArray, List.set_cons_zero, List.set_cons_succ]
              refine rgx_1 15 (by kernel_rfl) ?_
              refine ⟨_, rfl, by rfl, fun K hK => ?_⟩
              have hox := own_below HOy.out HBX.out (Nat.le_refl _)
              have dz : ∀ i, x3.frozen? ⟨ge, i, none⟩ = false := fun i => hox.frozenAt i
              have dl : ge < x3.heap.size := (hox.lt ge rfl).2
              have dc : x3.cell? ⟨ge, q * 3, none⟩ = some (.int .i64 at0) := (HBX.out.cell (p := ⟨ge, q * 3, none⟩) hgey).trans HDy.out
              go_simp
              have hst := (hox.stored (q * 3) (.int .i64 (((at0 + 1) * ch + 10) / 11))).1
              rw [HSET.out] at hst
              have hbf := (ext_trans HBy.out HBX.out).setCell (p := ⟨ge, q * 3, none⟩) (show w5.heap.size ≤ ge by omega) (.int .i64 (((at0 + 1) * ch + 10) / 11))
              have hm : Mem (fun b => True) x3 _ := (Mem.refl (fun b => True) x3).of_set (g := ge) (k := q * 3) (v := .int .i64 (((at0 + 1) * ch + 10) / 11)) trivial
              have HSF := Lib.hid hst
              have HBF := Lib.hid hbf
              refine hK (fun b => True) _ _ (fun b h => .inl h) hm ?_
              clear hst hbf hm hox dz dl dc
              clear hK K
              try simp only [Act.put, List.setIfInBounds_toArray, List.set_cons_zero, List.set_cons_succ]
              refine rgx_d (by kernel_rfl) ?_
              go_wp2_with fail
              go_roundw
              case rel => exact ⟨q + 1, by omega, by go_num, HSF.out, HBF.out⟩
              case measure => simp [intOf]; omega
            · refine ⟨_, rfl, by rfl, fun K hK => ?_⟩
              go_simp
              refine (HCHR.out _).mono ?_
              rintro e x2 ⟨rfl, hbc⟩
              have HBX := Lib.hid (ext_trans HBX.out hbc)
              refine hK (fun b => True) _ _ (fun b h => .inl h) (Mem.of_below hbc) ?_
              clear hbc
              clear hK K
              try simp only [Act.put, List.setIfInBounds_toArray, List.set_cons_zero, List.set_cons_succ]
              refine rgx_1 6 (by kernel_rfl) ?_
              refine ⟨_, rfl, by rfl, fun K hK => ?_⟩
              have z6 := (HBX.out.cell (p := ⟨ge, q * 3, none⟩) hgey).trans HDy.out
              go_simp
              obtain ⟨x3, hE⟩ : ∃ W : World, W = x2 := ⟨_, rfl⟩
              subst hE
              refine hK (fun b => True) _ _ (fun b h => .inl h) (Mem.refl _ _) ?_
              clear z6
              clear hK K
              try simp only [Act.put, List.setIfInBounds_toArray, List.set_cons_zero, List.set_cons_succ]
              refine rgx_t (v := ?_) (some 114) 7 (by kernel_rfl) rfl rfl (.inl ⟨by rfl, fun w' q => ?_⟩) ?_
              rotate_left
              · go_simp <;> with_reducible rfl
              try simp only [Act.put, List.setIfInBounds_toArray, List.set_cons_zero, List.set_cons_succ]
              refine rgx_t (v := ?_) (some 117) 10 (by kernel_rfl) rfl rfl (.inl ⟨by rfl, fun w' q => ?_⟩) ?_
              rotate_left
              · go_simp <;> with_reducible rfl
              try simp only [Act.put, List.setIfInBounds_toArray, List.set_cons_zero, List.set_cons_succ]
              refine rgx_t (v := ?_) (some 118) 11 (by kernel_rfl) rfl rfl (.inl ⟨by rfl, fun w' q => ?_⟩) ?_
              rotate_left
              · go_simp <;> with_reducible rfl
              try simp only [Act.put, List.setIfInBounds_toArray, List.set_cons_zero, List.set_cons_succ]
              refine rgx_t (v := ?_) (some 119) 12 (by kernel_rfl) rfl rfl (.inl ⟨by rfl, fun w' q => ?_⟩) ?_
              rotate_left
              · go_simp <;> with_reducible rfl
              try simp only [Act.put, List.setIfInBounds_toArray, List.set_cons_zero, List.set_cons_succ]
              refine rgx_t (v := ?_) (some 120) 13 (by kernel_rfl) rfl rfl (.inl ⟨by rfl, fun w' q => ?_⟩) ?_
              rotate_left
              · go_simp <;> with_reducible rfl
              try simp only [Act.put, List.setIfInBounds_toArray, List.set_cons_zero, List.set_cons_succ]
              refine rgx_t (v := ?_) (some 121) 14 (by kernel_rfl) rfl rfl (.inl ⟨by rfl, fun w' q => ?_⟩) ?_
              rotate_left
              · go_simp <;> with_reducible rfl
              try simp only [Act.put, List.setIfInBounds_toArray, List.set_cons_zero, List.set_cons_succ]
              refine rgx_1 15 (by kernel_rfl) ?_
              refine ⟨_, rfl, by rfl, fun K hK => ?_⟩
              have hox := own_below HOy.out HBX.out (Nat.le_refl _)
              have dz : ∀ i, x3.frozen? ⟨ge, i, none⟩ = false := fun i => hox.frozenAt i
              have dl : ge < x3.heap.size := (hox.lt ge rfl).2
              have dc : x3.cell? ⟨ge, q * 3, none⟩ = some (.int .i64 at0) := (HBX.out.cell (p := ⟨ge, q * 3, none⟩) hgey).trans HDy.out
              go_simp
              have hst := (hox.stored (q * 3) (.int .i64 (((at0 + 1) * ch + 10) / 11))).1
              rw [HSET.out] at hst
              have hbf := (ext_trans HBy.out HBX.out).setCell (p := ⟨ge, q * 3, none⟩) (show w5.heap.size ≤ ge by omega) (.int .i64 (((at0 + 1) * ch + 10) / 11))
              have hm : Mem (fun b => True) x3 _ := (Mem.refl (fun b => True) x3).of_set (g := ge) (k := q * 3) (v := .int .i64 (((at0 + 1) * ch + 10) / 11)) trivial
              have HSF := Lib.hid hst
              have HBF := Lib.hid hbf
              refine hK (fun b => True) _ _ (fun b h => .inl h) hm ?_
              clear hst hbf hm hox dz dl dc
              clear hK K
              try simp only [Act.put, List.setIfInBounds_toArray, List.set_cons_zero, List.set_cons_succ]
              refine rgx_d (by kernel_rfl) ?_
              go_wp2_with fail
              go_roundw
              case rel => exact ⟨q + 1, by omega, by go_num, HSF.out, HBF.out⟩
              case measure => simp [intOf]; omega
        · obtain rfl : q = k := by omega
          have hown := HOq.out
          rw [evMix_end] at hown
          have HEV := Lib.hid hown
          clear hown
          obtain ⟨t15, ht15⟩ : ∃ z, t15Z b p = z := ⟨_, rfl⟩
          obtain ⟨t35, ht35⟩ : ∃ z, t35Z b p = z := ⟨_, rfl⟩
          have h1535 := H15.out
          rw [HCHE.out, ht15, ht35] at h1535
          obtain ⟨h15a, h15b⟩ := h1535
          obtain ⟨hin, hor, fi, la, hfrm⟩ := evL_frames (bsOf fs) (ids2 (ids7 is)) ch t15 t35 0 6 q 200 (fun jj hj => by
            have : ids2 (ids7 is) jj = ids7 is jj := by unfold ids2; rw [if_neg (by omega)]
            rw [this]; exact ids7_le is jj) hN1 (by omega) hch0 hch1 h15a h15b (.inl rfl) (fun jj hj => by
            rw [pos_two _ _ (by omega)]
            have := pos7_le (ids7 is) (ids7_le is) (jj + 1)
            omega) (by omega)
          rw [bs_vals HFB.out q HFL.out] at hfrm
          have HSP := Lib.hid (fun (W : World) (A : Option Addr) (c B : Nat) (hr : Rd W B 3 A q (evCells (evL (bsOf fs) (ids2 (ids7 is)) ch 0 q 0))) (hB : B ≤ W.heap.size) => split_ok b p ch t15 t35 HV.out HCHE.out ht15 ht35 (evL (bsOf fs) (ids2 (ids7 is)) ch 0 q 0) A q c B W hr hB (by omega))
          have HIN := Lib.hid hin
          have HOR := Lib.hid hor
          have HFRM := Lib.hid hfrm
          have HSB9 := Lib.hid (HSB5.out.below HBq.out)
          have HQ9 := Lib.hid (HQ5.out.below HBq.out)
          obtain ⟨qs, zs, ls⟩ := HSB9.out
          clear hin hor hfrm ht15 ht35 h15a h15b
          go_upto_region 22 with fail
          go_wp2_with fail
          refine (HSP.out _ _ _ _ (Rd.of_own HEV.out) (Nat.le_refl _)).mono ?_
          rintro e z3 ⟨vo, E, rfl, hok⟩
          obtain ⟨rfl, hb3, l2, A9, c9, rfl, hr2, hf2, hl2⟩ := hok.get HIN.out HOR.out HFRM.out
          have HB3 := Lib.hid (ext_trans HBq.out hb3)
          have HQ10 := Lib.hid (HQ9.out.below hb3)
          obtain ⟨fr, rfl⟩ : ∃ f, l2 = [f] := by
            rcases l2 with _ | ⟨f, _ | ⟨g, t⟩⟩
            · cases hl2
            · exact ⟨f, rfl⟩
            · simp at hl2
          obtain ⟨fA, fn, fc, fxs, ffi, fla, ffl⟩ := fr
          simp only [fz, List.map_cons, List.map_nil, List.cons.injEq, and_true, Fz.mk.injEq] at hl2
          obtain ⟨hfx, rfl, rfl, rfl⟩ := hl2
          subst hfx
          obtain ⟨b3, off3, rfl, hbl3, hc3⟩ := hr2.2 (by simp)
          have k0 : z3.cell? ⟨b3, off3, none⟩ = some (.slice fA fn fc) := hc3 0 (.slice fA fn fc) (by simp [frCells])
          have k3 : z3.cell? ⟨b3, off3 + 3, none⟩ = some (.int .i64 0) := hc3 3 (.int .i64 0) (by simp [frCells])
          obtain ⟨hfr, _, hfc1, hfc2⟩ := hf2 _ (List.mem_singleton.2 rfl)
          dsimp only at hfr hfc1 hfc2
          have hfn : fn = q := by have h1 := hfr.1; simp at h1; have := HFL.out; omega
          subst hfn
          have hxx : Rd z3 w5.heap.size 1 (some ⟨bf, of, none⟩) fn (by8 fxs) := HR6.out.below HB3.out (Nat.le_refl _)
          obtain ⟨stt, hst⟩ : ∃ st, strOfNums fxs = st := ⟨_, rfl⟩
          have hFR := Lib.hid (fun (W : World) (hb : Below z3.heap.size z3 W) => show W.cell? ⟨b3, off3, none⟩ = some (.slice fA fn fc) ∧ W.cell? ⟨b3, off3 + 3, none⟩ = some (.int .i64 0) ∧ (convert 22 9 (.slice fA fn fc)).run Try.prog W = .ok (.string stt) W ∧ (convert 22 9 (.slice (some ⟨bf, of, none⟩) fn c5)).run Try.prog W = .ok (.string stt) W from
            ⟨(hb.cell (p := ⟨b3, off3, none⟩) hbl3).trans k0, (hb.cell (p := ⟨b3, off3 + 3, none⟩) hbl3).trans k3, by rw [← hst]; exact (hfr.below hb (Nat.le_refl _)).str, by rw [← hst]; exact (hxx.below hb HB3.out.size).str⟩)
          have HFR := Lib.hid hfr
          have HFC := Lib.hid (And.intro hfc1 hfc2)
          clear hok hr2 hf2 hc3 hfr hxx hst hb3 hfc1 hfc2 qs zs ls
          go_upto_region 23 with fail
          have hS : z3.drew.cell? ⟨b3, off3, none⟩ = some (.slice fA fn fc) ∧ z3.drew.cell? ⟨b3, off3 + 3, none⟩ = some (.int .i64 0) ∧ ((convert 22 9 (.slice fA fn fc)).run Try.prog z3.drew = .ok (.string stt) z3.drew ∧ (convert 22 9 (.slice (some ⟨bf, of, none⟩) fn c5)).run Try.prog z3.drew = .ok (.string stt) z3.drew) := hFR.out _ (below_drew (Below.refl _ _))
          refine rgs_start (fun w' => w'.cell? ⟨b3, off3, none⟩ = some (.slice fA fn fc) ∧ w'.cell? ⟨b3, off3 + 3, none⟩ = some (.int .i64 0) ∧ ((convert 22 9 (.slice fA fn fc)).run Try.prog w' = .ok (.string stt) w' ∧ (convert 22 9 (.slice (some ⟨bf, of, none⟩) fn c5)).run Try.prog w' = .ok (.string stt) w')) (by kernel_rfl) ?_
          refine rgs_t (v := ?_) (some 128) 0 (by kernel_rfl) rfl rfl (by assumption) (.inl ⟨by rfl, fun w' hw => ?_⟩) ?_
          rotate_left
          · obtain ⟨q1, q2, q3⟩ := hw; go_simp <;> with_reducible rfl
          try simp only [Act.put, List.setIfInBounds_toArray, List.set_cons_zero, List.set_cons_succ]
          refine rgs_t (v := ?_) (some 129) 1 (by kernel_rfl) rfl rfl (by assumption) (.inl ⟨by rfl, fun w' hw => ?_⟩) ?_
          rotate_left
          · obtain ⟨q1, q2, q3⟩ := hw; go_simp <;> with_reducible rfl
          try simp only [Act.put, List.setIfInBounds_toArray, List.set_cons_zero, List.set_cons_succ]
          refine rgs_t (v := ?_) (some 130) 2 (by kernel_rfl) rfl rfl (by assumption) (.inl ⟨by rfl, fun w' hw => ?_⟩) ?_
          rotate_left
          · obtain ⟨q1, q2, q3⟩ := hw; go_simp <;> with_reducible rfl
          try simp only [Act.put, List.setIfInBounds_toArray, List.set_cons_zero, List.set_cons_succ]
          refine rgs_t (v := ?_) (some 131) 3 (by kernel_rfl) rfl rfl (by assumption) (.inl ⟨by rfl, fun w' hw => ?_⟩) ?_
          rotate_left
          · obtain ⟨q1, q2, q3⟩ := hw; go_simp <;> with_reducible rfl
          try simp only [Act.put, List.setIfInBounds_toArray, List.set_cons_zero, List.set_cons_succ]
          refine rgs_t (v := ?_) (some 132) 4 (by kernel_rfl) rfl rfl (by assumption) (.inl ⟨by rfl, fun w' hw => ?_⟩) ?_
          rotate_left
          · obtain ⟨q1, q2, q3⟩ := hw; go_simp <;> with_reducible rfl
          try simp only [Act.put, List.setIfInBounds_toArray, List.set_cons_zero, List.set_cons_succ]
          refine rgs_t (v := ?_) (some 133) 5 (by kernel_rfl) rfl rfl (by assumption) (.inl ⟨by rfl, fun w' hw => ?_⟩) ?_
          rotate_left
          · obtain ⟨q1, q2, q3⟩ := hw; go_simp <;> with_reducible rfl
          try simp only [Act.put, List.setIfInBounds_toArray, List.set_cons_zero, List.set_cons_succ]
          refine rgs_t (v := ?_) (some 134) 6 (by kernel_rfl) rfl rfl (by assumption) (.inl ⟨by rfl, fun w' hw => ?_⟩) ?_
          rotate_left
          · obtain ⟨q1, q2, q3⟩ := hw; go_simp <;> with_reducible rfl
          try simp only [Act.put, List.setIfInBounds_toArray, List.set_cons_zero, List.set_cons_succ]
          refine rgs_t (v := ?_) (some 135) 7 (by kernel_rfl) rfl rfl (by assumption) (.inl ⟨by rfl, fun w' hw => ?_⟩) ?_
          rotate_left
          · obtain ⟨q1, q2, q3⟩ := hw; go_simp <;> with_reducible rfl
          try simp only [Act.put, List.setIfInBounds_toArray, List.set_cons_zero, List.set_cons_succ]
          refine rgs_t (v := ?_) (some 136) 8 (by kernel_rfl) rfl rfl (by assumption) (.inl ⟨by rfl, fun w' hw => ?_⟩) ?_
          rotate_left
          · obtain ⟨q1, q2, q3⟩ := hw; go_simp <;> with_reducible rfl
          try simp only [Act.put, List.setIfInBounds_toArray, List.set_cons_zero, List.set_cons_succ]
          refine rgs_t (v := ?_) (some 137) 9 (by kernel_rfl) rfl rfl (by assumption) (.inl ⟨by rfl, fun w' hw => ?_⟩) ?_
          rotate_left
          · obtain ⟨q1, q2, q3⟩ := hw; go_simp <;> with_reducible rfl
          try simp only [Act.put, List.setIfInBounds_toArray, List.set_cons_zero, List.set_cons_succ]
          refine rgs_t (v := ?_) (some 138) 10 (by kernel_rfl) rfl rfl (by assumption) (.inl ⟨by rfl, fun w' hw => ?_⟩) ?_
          rotate_left
          · obtain ⟨q1, q2, q3⟩ := hw; go_simp <;> with_reducible rfl
          try simp only [Act.put, List.setIfInBounds_toArray, List.set_cons_zero, List.set_cons_succ]
          refine rgs_t (v := ?_) (some 139) 11 (by kernel_rfl) rfl rfl (by assumption) (.inl ⟨by rfl, fun w' hw => ?_⟩) ?_
          rotate_left
          · obtain ⟨q1, q2, q3⟩ := hw; go_simp <;> with_reducible rfl
          try simp only [Act.put, List.setIfInBounds_toArray, List.set_cons_zero, List.set_cons_succ]
          refine rgs_t (v := ?_) (some 140) 12 (by kernel_rfl) rfl rfl (by assumption) (.inl ⟨by rfl, fun w' hw => ?_⟩) ?_
          rotate_left
          · obtain ⟨q1, q2, q3⟩ := hw; go_simp <;> with_reducible rfl
          try simp only [Act.put, List.setIfInBounds_toArray, List.set_cons_zero, List.set_cons_succ]
          refine rgs_t (v := ?_) (some 141) 13 (by kernel_rfl) rfl rfl (by assumption) (.inl ⟨by rfl, fun w' hw => ?_⟩) ?_
          rotate_left
          · obtain ⟨q1, q2, q3⟩ := hw; go_simp <;> with_reducible rfl
          try simp only [Act.put, List.setIfInBounds_toArray, List.set_cons_zero, List.set_cons_succ]
          refine rgs_t (v := ?_) (some 142) 14 (by kernel_rfl) rfl rfl (by assumption) (.inl ⟨by rfl, fun w' hw => ?_⟩) ?_
          rotate_left
          · obtain ⟨q1, q2, q3⟩ := hw; go_simp <;> with_reducible rfl
          try simp only [Act.put, List.setIfInBounds_toArray, List.set_cons_zero, List.set_cons_succ]
          refine rgs_t (v := ?_) (some 143) 15 (by kernel_rfl) rfl rfl (by assumption) (.inl ⟨by rfl, fun w' hw => ?_⟩) ?_
          rotate_left
          · obtain ⟨q1, q2, q3⟩ := hw; go_simp <;> with_reducible rfl
          try simp only [Act.put, List.setIfInBounds_toArray, List.set_cons_zero, List.set_cons_succ]
          refine rgs_t (v := ?_) (some 144) 16 (by kernel_rfl) rfl rfl (by assumption) (.inl ⟨by rfl, fun w' hw => ?_⟩) ?_
          rotate_left
          · obtain ⟨q1, q2, q3⟩ := hw; go_simp <;> with_reducible rfl
          try simp only [Act.put, List.setIfInBounds_toArray, List.set_cons_zero, List.set_cons_succ]
          refine rgs_t (v := ?_) (some 145) 17 (by kernel_rfl) rfl rfl (by assumption) (.inl ⟨by rfl, fun w' hw => ?_⟩) ?_
          rotate_left
          · obtain ⟨q1, q2, q3⟩ := hw; go_simp <;> with_reducible rfl
          try simp only [Act.put, List.setIfInBounds_toArray, List.set_cons_zero, List.set_cons_succ]
          refine rgs_t (v := ?_) (some 146) 18 (by kernel_rfl) rfl rfl (by assumption) (.inl ⟨by rfl, fun w' hw => ?_⟩) ?_
          rotate_left
          · obtain ⟨q1, q2, q3⟩ := hw; go_simp <;> with_reducible rfl
          try simp only [Act.put, List.setIfInBounds_toArray, List.set_cons_zero, List.set_cons_succ]
          refine rgs_t (v := ?_) (some 147) 19 (by kernel_rfl) rfl rfl (by assumption) (.inl ⟨by rfl, fun w' hw => ?_⟩) ?_
          rotate_left
          · obtain ⟨q1, q2, q3⟩ := hw; go_simp <;> with_reducible rfl
          try simp only [Act.put, List.setIfInBounds_toArray, List.set_cons_zero, List.set_cons_succ]
          refine rgs_t (v := ?_) (some 148) 20 (by kernel_rfl) rfl rfl (by assumption) (.inl ⟨by rfl, fun w' hw => ?_⟩) ?_
          rotate_left
          · obtain ⟨q1, q2, q3⟩ := hw; go_simp <;> with_reducible rfl
          try simp only [Act.put, List.setIfInBounds_toArray, List.set_cons_zero, List.set_cons_succ]
          refine rgs_t (v := ?_) (some 149) 21 (by kernel_rfl) rfl rfl (by assumption) (.inl ⟨by rfl, fun w' hw => ?_⟩) ?_
          rotate_left
          · obtain ⟨q1, q2, q3⟩ := hw; go_simp <;> with_reducible rfl
          try simp only [Act.put, List.setIfInBounds_toArray, List.set_cons_zero, List.set_cons_succ]
          refine rgs_t (v := ?_) (some 150) 22 (by kernel_rfl) rfl rfl (by assumption) (.inl ⟨by rfl, fun w' hw => ?_⟩) ?_
          rotate_left
          · obtain ⟨q1, q2, q3⟩ := hw; go_simp <;> with_reducible rfl
          try simp only [Act.put, List.setIfInBounds_toArray, List.set_cons_zero, List.set_cons_succ]
          refine rgs_t (v := ?_) (some 151) 23 (by kernel_rfl) rfl rfl (by assumption) (.inl ⟨by rfl, fun w' hw => ?_⟩) ?_
          rotate_left
          · obtain ⟨q1, q2, q3⟩ := hw; go_simp <;> with_reducible rfl
          try simp only [Act.put, List.setIfInBounds_toArray, List.set_cons_zero, List.set_cons_succ]
          refine rgs_d (by kernel_rfl) ?_
          have hbz : Below z3.heap.size z3 z3.drew := below_drew (Below.refl _ _)
          have HSPL := Lib.hid (fun (W : World) (h : Below z3.heap.size z3 W) => (show Calls Try.prog 14 #[.slice fA fn fc] W fun e w' => ∃ v, e = .returned (.tuple #[.int .i64 (1 + r), v, .int .i64 0]) ∧ w'.ownsRow W.heap.size 5 1 v m4 (by8 pdu) ∧ Below W.heap.size W w' from by
            have hr9 : Rd W W.heap.size 1 fA (m4 + 3) (by8 (frameL (1 + r) pdu)) := by
              rw [HN.out, HFS.out]
              exact (HFR.out.below h (Nat.le_refl _)).more h.size
            have hs := aduSplit_yes (1 + r) pdu fA m4 fc W (by omega) hr9 HBD.out HM4.out hl1 (by omega) (by rw [HN.out]; exact HFC.out.1) HFC.out.2
            rw [HN.out] at hs
            exact hs))
          have HQ11 := Lib.hid (HQ10.out.below hbz)
          have HBF := Lib.hid (ext_trans (ext_trans HB5.out HB3.out) hbz)
          have k0' := hS.1
          clear hS
          obtain ⟨Z, hZ⟩ : ∃ Z, z3.drew = Z := ⟨_, rfl⟩
          rw [hZ] at HQ11 HBF k0' hbz ⊢
          clear hZ
          go_upto_region 25 with fail
          go_wp2_with fail
          refine (HSPL.out _ hbz).mono ?_
          rintro e z4 ⟨v4, rfl, hown4, hb4⟩
          obtain ⟨A12, c12, hv12, _, hR12⟩ := own_form hown4
          subst hv12
          have HQ12 := Lib.hid (HQ11.out.below hb4)
          have HBG := Lib.hid (ext_trans HBF.out hb4)
          have HDEC := Lib.hid (dec_of_enc HVQ.out A12 m4 c12 z4 (by rw [HPDU.out]; exact HM4.out) (by rw [HPDU.out]; exact hR12))
          clear hown4 hb4 hR12 k0' k0 k3 hbz
          go_wp2_with fail
          refine HDEC.out.mono ?_
          rintro e z5 ⟨rfl, hb5⟩
          have hba := (Below.refl z5.heap.size z5).alloc (Nat.le_refl _) (.cells #[.int .i64 f, .int .i64 a, .int .i64 n, .int .i64 c, .int .i64 o] 29)
          have HQ13 := Lib.hid ((HQ12.out.below hb5).below hba)
          have HQ14 := Lib.hid (Box.alloc_ (w := z5) (cs := #[.int .i64 f, .int .i64 a, .int .i64 n, .int .i64 c, .int .i64 o]) (e := 29))
          have HBH := Lib.hid (ext_trans (ext_trans HBG.out hb5) hba)
          clear hb5 hba
          go_upto_region 27 with fail
          obtain ⟨gz, hgz⟩ : ∃ g, z5.heap.size = g := ⟨_, rfl⟩
          obtain ⟨Z6, hZ6⟩ : ∃ W, z5.alloc (.cells #[.int .i64 f, .int .i64 a, .int .i64 n, .int .i64 c, .int .i64 o] 29) = W := ⟨_, rfl⟩
          rw [hZ6, hgz] at HQ14
          rw [hZ6] at HQ13 HBH
          try rw [hZ6]
          try rw [hgz]
          clear hZ6 hgz
          obtain ⟨q1, z1, l1⟩ := HQ13.out
          obtain ⟨q2, z2, l2⟩ := HQ14.out
          go_wp2_with fail
          refine (qawake_any _).mono ?_
          rintro e z7 ⟨rfl, hb7⟩
          have HEND := Lib.hid (ext_trans HBH.out hb7)
          clear hb7
          go_wp2
          go_ret
          exact ⟨rfl, HEND.out⟩
end Go.Proofs.Ytoliplochipoeaa

import Derived.Deep.DeepCutAuto
import Derived.Test.YtoliplochipoeaaB7
/- The law TopParity: the walk. -/
set_option linter.unusedVariables false
set_option linter.unusedSimpArgs false
namespace Go.Proofs.Ytoliplochipoeaa
open Go.RowKit

/-- The settings' row: setting j. -/
theorem pset_cells {w : World} {B : Nat} {A : Option Addr} (h : Rd w B 2 A 24 (stCells allL)) (j : Nat) (hj : j < 24) (b p : Int) (h1 : (stCells allL)[j * 2]? = some (.int .i64 b)) (h2 : (stCells allL)[j * 2 + 1]? = some (.int .i64 p)) :
    ∃ g off, A = some ⟨g, off, none⟩ ∧ g < B ∧ w.cell? ⟨g, off + j * 2, none⟩ = some (.int .i64 b) ∧ w.cell? ⟨g, off + j * 2 + 1, none⟩ = some (.int .i64 p) := by
  obtain ⟨g, off, e, hb, hc⟩ := h.2 (by omega)
  exact ⟨g, off, e, hb, hc _ _ h1, hc _ _ h2⟩
def ds0 : Nat → Nat := fun _ => 0
theorem pos0 (k : Nat) : posTo ds0 k = 11 * k := by
  induction k with
  | zero => rfl
  | succ k ih => rw [posTo, ih]; simp [ds0]; omega
theorem line0 (bs : Nat → Nat) (p : Int) (k : Nat) : lineTo bs ds0 p (k + 1) = lineTo bs ds0 p k ++ encode (bs k) p := by
  rw [lineTo]; simp [ds0]
set_option maxRecDepth 100000 in
set_option maxHeartbeats 16000000 in
theorem topParity_any (HA : ∀ W : World, Calls Try.prog 19 #[] W fun e w' => e = .returned (.bool true) ∧ Below W.heap.size W w') (st un kd a0 b0 : Int) (od : Bool) (w : World) :
    Calls Try.prog 4 #[.int .i64 st, .int .i64 un, .int .i64 kd, .int .i64 a0, .int .i64 b0, .bool od] w fun e w' => e = .returned (.bool true) ∧ Below w.heap.size w w' := by
  obtain ⟨j, hj⟩ : ∃ j : Nat, st % 24 = (j : Int) := ⟨(st % 24).toNat, by omega⟩
  have hj24 : j < 24 := by omega
  obtain ⟨b, p, hs1, hs2, hp0, hp2, hval, hch0, hch1, h15, h35⟩ := set24 j hj24
  obtain ⟨r, hr1⟩ : ∃ r, un % 247 = r := ⟨_, rfl⟩
  have hr0 : 0 ≤ r ∧ r ≤ 246 := by omega
  have HM1 := Lib.hid (fun W => hj ▸ mod_any st 24 (by omega) (by omega) W)
  have HM2 := Lib.hid (fun W => hr1 ▸ mod_any un 247 (by omega) (by omega) W)
  have HS := Lib.hid (fun (W : World) (B : Nat) (A : Option Addr) (h : Rd W B 2 A 24 (stCells allL)) => pset_cells h j hj24 b p hs1 hs2)
  have HP := Lib.hid (And.intro hp0 hp2)
  have HV := Lib.hid hval
  have HCH := Lib.hid (And.intro hch0 hch1)
  have H15 := Lib.hid (And.intro h15 h35)
  obtain ⟨hr00, hr01⟩ := hr0
  have HAW := Lib.hid HA
  clear hj hs1 hs2 hval hch0 hch1 h15 h35 hr1 HA
  go_enter Try.func4, Try.ntmps4
  go_wp2_with fail
  refine (all_any _).mono ?_
  rintro e w1 ⟨A1, c1, rfl, hown1, hb1⟩
  obtain ⟨g1, off1, rfl, hg1, k1, k2⟩ := HS.out _ _ _ (Rd.of_own hown1)
  clear hown1
  go_wp2_with fail
  refine (HM1.out _).mono ?_
  rintro e w' ⟨rfl, rfl⟩
  have HB1 := Lib.hid hb1
  have HSB := Lib.hid (Box.alloc_ (w := w1) (cs := #[.int .i64 b, .int .i64 p]) (e := 24))
  have hba := (Below.refl w1.heap.size w1).alloc (Nat.le_refl _) (.cells #[.int .i64 b, .int .i64 p] 24)
  have HB2 := Lib.hid (ext_trans hb1 hba)
  clear hb1 hba
  go_upto_region 2 with fail
  obtain ⟨gs, hgs⟩ : ∃ g, w1.heap.size = g := ⟨_, rfl⟩
  obtain ⟨W2, hW2⟩ : ∃ W, w1.alloc (.cells #[.int .i64 b, .int .i64 p] 24) = W := ⟨_, rfl⟩
  rw [hW2, hgs] at HSB
  rw [hW2] at HB2
  try rw [hW2]
  try rw [hgs]
  have HGS := Lib.hid (show w.heap.size ≤ gs by rw [← hgs]; exact HB1.out.size)
  clear hW2 hgs k1 k2 hg1 HB1
  go_wp2_with fail
  refine (HM2.out _).mono ?_
  rintro e w' ⟨rfl, rfl⟩
  have e11 : IntKind.i64.wrap (1 + r) = 1 + r := IntWalk.i64_in _ ⟨by omega, by omega⟩
  go_wp2_with fail
  refine (make_any kd a0 b0 _).mono ?_
  rintro e w3 ⟨f, a, n, c, o, rfl, hvq, hb3⟩
  have hba := (Below.refl w3.heap.size w3).alloc (Nat.le_refl _) (.cells #[.int .i64 f, .int .i64 a, .int .i64 n, .int .i64 c, .int .i64 o] 29)
  have HSB3 := Lib.hid ((HSB.out.below hb3).below hba)
  have HB3 := Lib.hid (ext_trans (ext_trans HB2.out hb3) hba)
  have HQ3 := Lib.hid (Box.alloc_ (w := w3) (cs := #[.int .i64 f, .int .i64 a, .int .i64 n, .int .i64 c, .int .i64 o]) (e := 29))
  have HVQ := Lib.hid hvq
  clear hb3 hba hvq HB2 HSB
  go_upto_region 4 with fail
  obtain ⟨gq, hgq⟩ : ∃ g, w3.heap.size = g := ⟨_, rfl⟩
  obtain ⟨W3, hW3⟩ : ∃ W, w3.alloc (.cells #[.int .i64 f, .int .i64 a, .int .i64 n, .int .i64 c, .int .i64 o] 29) = W := ⟨_, rfl⟩
  rw [hW3, hgq] at HQ3
  rw [hW3] at HSB3 HB3
  try rw [hW3]
  try rw [hgq]
  clear hW3 hgq
  obtain ⟨qq, zq, lq⟩ := HQ3.out
  have hfn := vq_fn HVQ.out
  have hf0 : 1 ≤ f ∧ f ≤ 43 := by rcases hfn with h | h | h <;> omega
  have HREP := Lib.hid (fun W : World => (show Calls Try.prog 17 #[.agg #[.int .i64 f, .int .i64 2, .slice none 0 0, .int .i64 0, .int .i64 0, .bool false, .int .i64 0, .slice none 0 0]] W _ from erep_any f hfn W))
  obtain ⟨pdu, hpdu⟩ : ∃ l, [f + 128, 2] = l := ⟨_, rfl⟩
  have hbd : ∀ x ∈ pdu, 0 ≤ x ∧ x ≤ 255 := by
    subst hpdu; intro x hx
    rcases List.mem_cons.1 hx with rfl | hx
    · omega
    · have := List.mem_singleton.1 hx; omega
  have hpl : pdu.length = 2 := by rw [← hpdu]; rfl
  have HBD := Lib.hid hbd
  have HPL := Lib.hid hpl
  rw [hpdu] at HREP
  clear hbd hpl hpdu hfn hf0
  go_wp2_with fail
  refine (HREP.out _).mono ?_
  rintro e w4 ⟨A4, rfl, hR4, hb4⟩
  have HSB4 := Lib.hid (HSB3.out.below hb4)
  have HQ4 := Lib.hid (HQ3.out.below hb4)
  have HB4 := Lib.hid (ext_trans HB3.out hb4)
  have HR4 := Lib.hid hR4
  clear hR4 hb4 qq zq lq HSB3 HQ3 HB3 HREP
  go_wp2_with fail
  refine (aduBuild_any (1 + r) pdu A4 2 2 w4 (by omega) HR4.out HBD.out (by omega) (by omega)).mono ?_
  rintro e w5 ⟨v5, rfl, hown5, hb5⟩
  obtain ⟨A5, c5, hv5, hc5, hm5, hR5⟩ := own_form2 hown5
  obtain ⟨N, hN⟩ : ∃ N, 2 + 3 = N := ⟨_, rfl⟩
  rw [hN] at hv5 hc5 hR5
  subst hv5
  have HSB5 := Lib.hid (HSB4.out.below hb5)
  have HQ5 := Lib.hid (HQ4.out.below hb5)
  have HB5 := Lib.hid (ext_trans HB4.out hb5)
  have HC5 := Lib.hid (And.intro hc5 hm5)
  clear hown5 hb5 HSB4 HQ4 HB4 HR4 hc5 hm5
  obtain ⟨fs, hfs⟩ : ∃ l, frameL (1 + r) pdu = l := ⟨_, rfl⟩
  have hfb := frameL_bd (1 + r) pdu (by omega) HBD.out
  have hfl := frameL_len (1 + r) pdu
  rw [HPL.out] at hfl
  rw [hfs] at hfb hfl hR5
  rw [hN] at hfl
  have hN5 : N = 5 := by omega
  have hN1 : 1 ≤ N := by omega
  have hN8 : N ≤ 8 := by omega
  have HR6 := Lib.hid hR5
  obtain ⟨bf, of, hA5, hbf, _⟩ := HR6.out.2 (by omega)
  subst hA5
  have HFX := Lib.hid (fun (W : World) (h : Below w5.heap.size w5 W) => byte_at (HR6.out.below h (Nat.le_refl _)) hfb)
  have HBS := Lib.hid (bsOf_le hfb)
  have HFS := Lib.hid hfs
  have HFL := Lib.hid hfl
  have HN := Lib.hid hN
  have HFB := Lib.hid hfb
  clear hfs hfb hfl hN hR5 hN5
  go_upto_if 52 with (fail)
  go_cut [19, 20] (fun u v x => ∃ s t : Int, u = .int .i64 s ∧ v = .int .i64 t ∧ (0 ≤ s ∧ s ≤ 2) ∧ (0 ≤ t ∧ t ≤ 2) ∧ (∀ b : Nat, b ≤ 255 → decode (encode b s) t = (b, 1, true)) ∧ w5 = x)
  case first =>
    cases od
    · go_wp2_with fail
      go_meet
      case rel => exact ⟨1, 2, rfl, rfl, by omega, by omega, fun b hb => (mism b hb).1, rfl⟩
    · go_wp2_with fail
      go_meet
      case rel => exact ⟨2, 1, rfl, rfl, by omega, by omega, fun b hb => (mism b hb).2, rfl⟩
  case rest =>
    obtain ⟨s, t, rfl, rfl, hs2, ht2, hdd, rfl⟩ := hcut
    have HPS := Lib.hid hs2
    have HPT := Lib.hid ht2
    have HDD := Lib.hid hdd
    clear hs2 ht2 hdd
    go_wp2_with fail
    go_loopw [21, 22] (fun v i wr => ∃ k : Nat, k ≤ N ∧ i = .int .i64 k ∧ wr.ownsRow w5.heap.size 4 1 v (11 * k) ((lineTo (bsOf fs) ds0 s k).map Value.bool) ∧ Below w5.heap.size w5 wr) (fun _ i _ => N - (intOf i).toNat)
    case atStart => exact ⟨0, by omega, rfl, World.ownsRow_nil _ _ _ _, Below.refl _ _⟩
    case round =>
      obtain ⟨k, hk, rfl, hown, hbw⟩ := hrel
      by_cases hlt : k < N
      · obtain ⟨b', o', e', hbx, hcx⟩ := HFX.out _ hbw k hlt
        injection e' with e'
        injection e' with e1 e2
        subst e1 e2
        obtain ⟨bv, hbv⟩ : ∃ bv, bsOf fs k = bv := ⟨_, rfl⟩
        rw [hbv] at hbx hcx
        obtain ⟨el, hel⟩ : ∃ el, encode bv s = el := ⟨_, rfl⟩
        have hlen : el.length = 11 := by rw [← hel]; exact enc_length _ _ HPS.out
        have HE := Lib.hid (fun w => encode_eq bv hbx s el 11 hel hlen w)
        have HNX := Lib.hid (show (lineTo (bsOf fs) ds0 s k).map Value.bool ++ el.map Value.bool = (lineTo (bsOf fs) ds0 s (k + 1)).map Value.bool from by rw [line0, hbv, hel, ← List.map_append])
        have H1 := Lib.hid (one_bools el)
        have HO := Lib.hid hown
        have HBW := Lib.hid hbw
        clear hown hbw hbv hel hlen
        go_upto_region 13 with fail
        go_wp2_with fail
        refine (HE.out _).mono ?_
        rintro e w6 ⟨A9, c9, rfl, hown3, hR3, hb3⟩
        have HO9 := Lib.hid (own_below HO.out hb3 (Nat.le_refl _))
        have HB9 := Lib.hid (ext_trans HBW.out hb3)
        have HR9 := Lib.hid hR3
        clear hown3 hR3 hb3
        go_wp2_with (at_builtin; refine wpList_appR (.tmp 61) (.tmp 67) 35 w5.heap.size 4 _ 1 1 _ (11 * k) _ w6.heap.size A9 11 c9 _ Try.underlying35 boolInfo rfl (by decide) rfl rfl rfl rfl HO9.out HR9.out H1.out (by omega) (by omega) HB9.out.size ?_; intro v1 w7 hown5 hg1 hb1)
        refine ⟨⟨k + 1, by omega, by go_num, ?_, HB9.out.trans hb1⟩, by simp [intOf]; omega⟩
        rw [← HNX.out, show 11 * (k + 1) = 11 * k + 11 by omega]
        exact hown5
      · obtain rfl : k = N := by omega
        obtain ⟨L, hL⟩ : ∃ L, lineTo (bsOf fs) ds0 s k = L := ⟨_, rfl⟩
        have hstr : streamL L t = (List.range k).map (evF (bsOf fs) ds0 1) := by
          rw [← hL]
          have h := lineF_all (bsOf fs) ds0 s t 1 HPS.out HPT.out HBS.out HDD.out [] (by simp) k
          rwa [List.append_nil] at h
        rw [hL] at hown
        obtain ⟨A10, c10, hv10, hlc, hcm, hR10⟩ := own_form2 hown
        subst hv10
        have HST := Lib.hid (stream_eq L (11 * k) _ k A10 c10 wr.heap.size t wr hR10 hlc hcm (by omega) hstr (by simp))
        have HBW := Lib.hid hbw
        clear hstr hL hown hlc hcm hR10 hbw
        go_upto_region 14 with fail
        go_wp2_with fail
        refine HST.out.mono ?_
        rintro e x2 ⟨A11, c11, rfl, hown, hb9⟩
        rw [evMix_start (bsOf fs) ds0 (charZ b p) 1 k] at hown
        obtain ⟨ge, cap2, hv, hge, hgel⟩ := hown.form (by omega)
        injection hv with hA _ hcc
        subst hA hcc
        have HB9 := Lib.hid (ext_trans HBW.out hb9)
        have hlo9 : w5.heap.size ≤ wr.heap.size := HBW.out.size
        obtain ⟨ch, hch⟩ : ∃ ch, charZ b p = ch := ⟨_, rfl⟩
        have hCH := HCH.out
        rw [hch] at hown hCH
        obtain ⟨hch0, hch1⟩ := hCH
        obtain ⟨be, hbe⟩ : ∃ be, wr.heap.size = be := ⟨_, rfl⟩
        rw [hbe] at hown hge hlo9
        have HO10 := Lib.hid hown
        have HCHR := Lib.hid (fun W => hch ▸ char_any b p W)
        have HCHE := Lib.hid hch
        have hgsl : gs < w5.heap.size := HSB5.out.2.2
        clear hown hch hbe hb9 HST HBW
        go_wp2_with fail
        go_loopw [24] (fun i wq => ∃ q : Nat, q ≤ k ∧ i = .int .i64 q ∧ wq.ownsRow be 40 3 (.slice (some ⟨ge, 0, none⟩) k c11) k (evMix (bsOf fs) ds0 ch 1 k q) ∧ Below w5.heap.size w5 wq) (fun i _ => k - (intOf i).toNat)
        case atStart => exact ⟨0, by omega, rfl, HO10.out, HB9.out⟩
        case round =>
          obtain ⟨q, hq, rfl, hown, hbq⟩ := hrel
          have HOq := Lib.hid hown
          have HBq := Lib.hid hbq
          clear hown hbq
          by_cases hlq : q < k
          · obtain ⟨at0, hat⟩ : ∃ z : Int, ((posTo ds0 q + ds0 q + 10 : Nat) : Int) = z := ⟨_, rfl⟩
            have hatb : 0 ≤ at0 ∧ at0 ≤ 300 := by
              have h3 := pos0 q
              have h4 : ds0 q = 0 := rfl
              omega
            have hd0 : wr.cell? ⟨ge, q * 3, none⟩ = some (.int .i64 at0) := by
              rw [HOq.out.cellAt _ (by omega)]
              have h := evMix_get (bsOf fs) ds0 ch 1 k q q hlq 0 (by omega)
              rw [Nat.add_zero] at h
              rw [h, mixRow, ← hat]
              simp
            have htk := tick_eq ds0 ch q at0 hat
            have hset := evMix_set (bsOf fs) ds0 ch 1 k q hlq
            rw [htk] at hset
            have HSET := Lib.hid hset
            have hP0 : 0 ≤ (at0 + 1) * ch := Int.mul_nonneg (by omega) hch0
            have hP1 : (at0 + 1) * ch ≤ 301 * 10000 := Int.mul_le_mul (by omega) hch1 hch0 (by omega)
            have f1 : IntKind.i64.wrap (at0 + 1) = at0 + 1 := IntWalk.i64_in _ ⟨by omega, by omega⟩
            have f2 : IntKind.i64.wrap ((at0 + 1) * ch) = (at0 + 1) * ch := IntWalk.i64_in _ ⟨by omega, by omega⟩
            have f3 : IntKind.i64.wrap ((at0 + 1) * ch + 10) = (at0 + 1) * ch + 10 := IntWalk.i64_in _ ⟨by omega, by omega⟩
            have f4 : Int.tdiv ((at0 + 1) * ch + 10) 11 = ((at0 + 1) * ch + 10) / 11 := Int.tdiv_eq_ediv_of_nonneg (by omega)
            have f5 : IntKind.i64.wrap (((at0 + 1) * ch + 10) / 11) = ((at0 + 1) * ch + 10) / 11 := IntWalk.i64_in _ ⟨by omega, by omega⟩
            have hgeq : ge < wr.heap.size := (HOq.out.lt ge rfl).2
            obtain ⟨hatb0, hatb1⟩ := hatb
            clear hat htk hset
            go_upto_region 18 with fail
            have HOy := Lib.hid (own_below HOq.out (below_drew (Below.refl wr.heap.size wr)) (Nat.le_refl _))
            have HBy := Lib.hid (below_drew HBq.out)
            have HSy := Lib.hid ((HSB5.out.below HBq.out).drew)
            have HDy := Lib.hid (show wr.drew.cell? ⟨ge, q * 3, none⟩ = some (.int .i64 at0) from hd0)
            have hgey : ge < wr.drew.heap.size := hgeq
            have HBX := Lib.hid (Below.refl wr.drew.heap.size wr.drew)
            obtain ⟨y0, hy0⟩ : ∃ y, wr.drew = y := ⟨_, rfl⟩
            rw [hy0] at HOy HBy HSy HDy hgey HBX
            clear hd0
            refine rgx_start_all (by kernel_rfl) ?_
            rw [hy0]
            refine rgx_t (v := ?_) (some 78) 0 (by kernel_rfl) rfl rfl (.inl ⟨by rfl, fun w' q => ?_⟩) ?_
            rotate_left
            · go_simp <;> with_reducible rfl
            try simp only [Act.put, List.setIfInBounds_toArray, List.set_cons_zero, List.set_cons_succ]
            refine rgx_t (v := ?_) (some 79) 1 (by kernel_rfl) rfl rfl (.inl ⟨by rfl, fun w' q => ?_⟩) ?_
            rotate_left
            · go_simp <;> with_reducible rfl
            try simp only [Act.put, List.setIfInBounds_toArray, List.set_cons_zero, List.set_cons_succ]
            refine rgx_t (v := ?_) (some 80) 2 (by kernel_rfl) rfl rfl (.inl ⟨by rfl, fun w' q => ?_⟩) ?_
            rotate_left
            · go_simp <;> with_reducible rfl
            try simp only [Act.put, List.setIfInBounds_toArray, List.set_cons_zero, List.set_cons_succ]
            refine rgx_t (v := ?_) (some 81) 3 (by kernel_rfl) rfl rfl (.inl ⟨by rfl, fun w' q => ?_⟩) ?_
            rotate_left
            · go_simp <;> with_reducible rfl
            try simp only [Act.put, List.setIfInBounds_toArray, List.set_cons_zero, List.set_cons_succ]
            refine rgx_t (v := ?_) (some 82) 4 (by kernel_rfl) rfl rfl (.inl ⟨by rfl, fun w' q => ?_⟩) ?_
            rotate_left
            · go_simp <;> with_reducible rfl
            try simp only [Act.put, List.setIfInBounds_toArray, List.set_cons_zero, List.set_cons_succ]
            refine rgx_t (v := ?_) (some 83) 5 (by kernel_rfl) rfl rfl (.inl ⟨by rfl, fun w' q => ?_⟩) ?_
            rotate_left
            · go_simp <;> with_reducible rfl
            try simp only [Act.put, List.setIfInBounds_toArray, List.set_cons_zero, List.set_cons_succ]
            refine rgx_2 6 8 (by kernel_rfl) ?_ ?_
            · refine ⟨_, rfl, by rfl, fun K hK => ?_⟩
              have z6 := (HBX.out.cell (p := ⟨ge, q * 3, none⟩) hgey).trans HDy.out
              go_simp
              obtain ⟨x1, hE⟩ : ∃ W : World, W = y0 := ⟨_, rfl⟩
              subst hE
              refine hK (fun b => True) _ _ (fun b h => .inl h) (Mem.refl _ _) ?_
              clear z6
              clear hK K
              try simp only [Act.put, List.setIfInBounds_toArray, List.set_cons_zero, List.set_cons_succ]
              refine rgx_t (v := ?_) (some 85) 7 (by kernel_rfl) rfl rfl (.inl ⟨by rfl, fun w' q => ?_⟩) ?_
              rotate_left
              · go_simp <;> with_reducible rfl
              try simp only [Act.put, List.setIfInBounds_toArray, List.set_cons_zero, List.set_cons_succ]
              refine rgx_1 8 (by kernel_rfl) ?_
              refine ⟨_, rfl, by rfl, fun K hK => ?_⟩
              obtain ⟨qs, zs, ls⟩ := HSy.out.below HBX.out
              go_simp
              obtain ⟨x2, hE⟩ : ∃ W : World, W = x1 := ⟨_, rfl⟩
              subst hE
              refine hK (fun b => True) _ _ (fun b h => .inl h) (Mem.refl _ _) ?_
              clear qs zs ls
              clear hK K
              try simp only [Act.put, List.setIfInBounds_toArray, List.set_cons_zero, List.set_cons_succ]
              refine rgx_1 9 (by kernel_rfl) ?_
              refine ⟨_, rfl, by rfl, fun K hK => ?_⟩
              go_simp
              refine (HCHR.out _).mono ?_
              rintro e x3 ⟨rfl, hbc⟩
              have HBX := Lib.hid (ext_trans HBX.out hbc)
              refine hK (fun b => True) _ _ (fun b h => .inl h) (Mem.of_below hbc) ?_
              clear hbc
              clear hK K
              try simp only [Act.put, List.setIfInBounds_toArray, List.set_cons_zero, List.set_cons_succ]
              refine rgx_t (v := ?_) (some 88) 10 (by kernel_rfl) rfl rfl (.inl ⟨by rfl, fun w' q => ?_⟩) ?_
              rotate_left
              · go_simp <;> with_reducible rfl
              try simp only [Act.put, List.setIfInBounds_toArray, List.set_cons_zero, List.set_cons_succ]
              refine rgx_t (v := ?_) (some 89) 11 (by kernel_rfl) rfl rfl (.inl ⟨by rfl, fun w' q => ?_⟩) ?_
              rotate_left
              · go_simp <;> with_reducible rfl
              try simp only [Act.put, List.setIfInBounds_toArray, List.set_cons_zero, List.set_cons_succ]
              refine rgx_t (v := ?_) (some 90) 12 (by kernel_rfl) rfl rfl (.inl ⟨by rfl, fun w' q => ?_⟩) ?_
              rotate_left
              · go_simp <;> with_reducible rfl
              try simp only [Act.put, List.setIfInBounds_toArray, List.set_cons_zero, List.set_cons_succ]
              refine rgx_t (v := ?_) (some 91) 13 (by kernel_rfl) rfl rfl (.inl ⟨by rfl, fun w' q => ?_⟩) ?_
              rotate_left
              · go_simp <;> with_reducible rfl
              try simp only [Act.put, List.setIfInBounds_toArray, List.set_cons_zero, List.set_cons_succ]
              refine rgx_t (v := ?_) (some 92) 14 (by kernel_rfl) rfl rfl (.inl ⟨by rfl, fun w' q => ?_⟩) ?_
              rotate_left
              · go_simp <;> with_reducible rfl
              try simp only [Act.put, List.setIfInBounds_toArray, List.set_cons_zero, List.set_cons_succ]
              refine rgx_1 15 (by kernel_rfl) ?_
              refine ⟨_, rfl, by rfl, fun K hK => ?_⟩
              have hox := own_below HOy.out HBX.out (Nat.le_refl _)
              have dz : ∀ i, x3.frozen? ⟨ge, i, none⟩ = false := fun i => hox.frozenAt i
              have dl : ge < x3.heap.size := (hox.lt ge rfl).2
              have dc : x3.cell? ⟨ge, q * 3, none⟩ = some (.int .i64 at0) := (HBX.out.cell (p := ⟨ge, q * 3, none⟩) hgey).trans HDy.out
              go_simp
              have hst := (hox.stored (q * 3) (.int .i64 (((at0 + 1) * ch + 10) / 11))).1
              rw [HSET.out] at hst
              have hbf := (ext_trans HBy.out HBX.out).setCell (p := ⟨ge, q * 3, none⟩) (show w5.heap.size ≤ ge by omega) (.int .i64 (((at0 + 1) * ch + 10) / 11))
              have hm : Mem (fun b => True) x3 _ := (Mem.refl (fun b => True) x3).of_set (g := ge) (k := q * 3) (v := .int .i64 (((at0 + 1) * ch + 10) / 11)) trivial
              have HSF := Lib.hid hst
              have HBF := Lib.hid hbf
              refine hK (fun b => True) _ _ (fun b h => .inl h) hm ?_
              clear hst hbf hm hox dz dl dc
              clear hK K
              try simp only [Act.put, List.setIfInBounds_toArray, List.set_cons_zero, List.set_cons_succ]
              refine rgx_d (by kernel_rfl) ?_
              go_wp2_with fail
              go_roundw
              case rel => exact ⟨q + 1, by omega, by go_num, HSF.out, HBF.out⟩
              case measure => simp [intOf]; omega
            · refine ⟨_, rfl, by rfl, fun K hK => ?_⟩
              obtain ⟨qs, zs, ls⟩ := HSy.out.below HBX.out
              go_simp
              obtain ⟨x1, hE⟩ : ∃ W : World, W = y0 := ⟨_, rfl⟩
              subst hE
              refine hK (fun b => True) _ _ (fun b h => .inl h) (Mem.refl _ _) ?_
              clear qs zs ls
              clear hK K
              try simp only [Act.put, List.setIfInBounds_toArray, List.set_cons_zero, List.set_cons_succ]
              refine rgx_2 6 9 (by kernel_rfl) ?_ ?_
              · refine ⟨_, rfl, by rfl, fun K hK => ?_⟩
                have z6 := (HBX.out.cell (p := ⟨ge, q * 3, none⟩) hgey).trans HDy.out
                go_simp
                obtain ⟨x2, hE⟩ : ∃ W : World, W = x1 := ⟨_, rfl⟩
                subst hE
                refine hK (fun b => True) _ _ (fun b h => .inl h) (Mem.refl _ _) ?_
                clear z6
                clear hK K
                try simp only [Act.put, List.setIfInBounds_toArray, List.set_cons_zero, List.set_cons_succ]
                refine rgx_t (v := ?_) (some 85) 7 (by kernel_rfl) rfl rfl (.inl ⟨by rfl, fun w' q => ?_⟩) ?_
                rotate_left
                · go_simp <;> with_reducible rfl
                try simp only [Act.put, List.setIfInBounds_toArray, List.set_cons_zero, List.set_cons_succ]
                refine rgx_1 9 (by kernel_rfl) ?_
                refine ⟨_, rfl, by rfl, fun K hK => ?_⟩
                go_simp
                refine (HCHR.out _).mono ?_
                rintro e x3 ⟨rfl, hbc⟩
                have HBX := Lib.hid (ext_trans HBX.out hbc)
                refine hK (fun b => True) _ _ (fun b h => .inl h) (Mem.of_below hbc) ?_
                clear hbc
                clear hK K
                try simp only [Act.put, List.setIfInBounds_toArray, List.set_cons_zero, List.set_cons_succ]
                refine rgx_t (v := ?_) (some 88) 10 (by kernel_rfl) rfl rfl (.inl ⟨by rfl, fun w' q => ?_⟩) ?_
                rotate_left
                · go_simp <;> with_reducible rfl
                try simp only [Act.put, List.setIfInBounds_toArray, List.set_cons_zero, List.set_cons_succ]
                refine rgx_t (v := ?_) (some 89) 11 (by kernel_rfl) rfl rfl (.inl ⟨by rfl, fun w' q => ?_⟩) ?_
                rotate_left
                · go_simp <;> with_reducible rfl
                try simp only [Act.put, List.setIfInBounds_toArray, List.set_cons_zero, List.set_cons_succ]
                refine rgx_t (v := ?_) (some 90) 12 (by kernel_rfl) rfl rfl (.inl ⟨by rfl, fun w' q => ?_⟩) ?_
                rotate_left
                · go_simp <;> with_reducible rfl
                try simp only [Act.put, List.setIfInBounds_toArray, List.set_cons_zero, List.set_cons_succ]
                refine rgx_t (v := ?_) (some 91) 13 (by kernel_rfl) rfl rfl (.inl ⟨by rfl, fun w' q => ?_⟩) ?_
                rotate_left
                · go_simp <;> with_reducible rfl
                try simp only [Act.put, List.setIfInBounds_toArray, List.set_cons_zero, List.set_cons_succ]
                refine rgx_t (v := ?_) (some 92) 14 (by kernel_rfl) rfl rfl (.inl ⟨by rfl, fun w' q => ?_⟩) ?_
                rotate_left
                · go_simp <;> with_reducible rfl
                try simp only [Act.put, List.setIfInBounds_toArray, List.set_cons_zero, List.set_cons_succ]
                refine rgx_1 15 (by kernel_rfl) ?_
                refine ⟨_, rfl, by rfl, fun K hK => ?_⟩
                have hox := own_below HOy.out HBX.out (Nat.le_refl _)
                have dz : ∀ i, x3.frozen? ⟨ge, i, none⟩ = false := fun i => hox.frozenAt i
                have dl : ge < x3.heap.size := (hox.lt ge rfl).2
                have dc : x3.cell? ⟨ge, q * 3, none⟩ = some (.int .i64 at0) := (HBX.out.cell (p := ⟨ge, q * 3, none⟩) hgey).trans HDy.out
                go_simp
                have hst := (hox.stored (q * 3) (.int .i64 (((at0 + 1) * ch + 10) / 11))).1
                rw [HSET.out] at hst
                have hbf := (ext_trans HBy.out HBX.out).setCell (p := ⟨ge, q * 3, none⟩) (show w5.heap.size ≤ ge by omega) (.int .i64 (((at0 + 1) * ch + 10) / 11))
                have hm : Mem (fun b => True) x3 _ := (Mem.refl (fun b => True) x3).of_set (g := ge) (k := q * 3) (v := .int .i64 (((at0 + 1) * ch + 10) / 11)) trivial
                have HSF := Lib.hid hst
                have HBF := Lib.hid hbf
                refine hK (fun b => True) _ _ (fun b h => .inl h) hm ?_
                clear hst hbf hm hox dz dl dc
                clear hK K
                try simp only [Act.put, List.setIfInBounds_toArray, List.set_cons_zero, List.set_cons_succ]
                refine rgx_d (by kernel_rfl) ?_
                go_wp2_with fail
                go_roundw
                case rel => exact ⟨q + 1, by omega, by go_num, HSF.out, HBF.out⟩
                case measure => simp [intOf]; omega
              · refine ⟨_, rfl, by rfl, fun K hK => ?_⟩
                go_simp
                refine (HCHR.out _).mono ?_
                rintro e x2 ⟨rfl, hbc⟩
                have HBX := Lib.hid (ext_trans HBX.out hbc)
                refine hK (fun b => True) _ _ (fun b h => .inl h) (Mem.of_below hbc) ?_
                clear hbc
                clear hK K
                try simp only [Act.put, List.setIfInBounds_toArray, List.set_cons_zero, List.set_cons_succ]
                refine rgx_1 6 (by kernel_rfl) ?_
                refine ⟨_, rfl, by rfl, fun K hK => ?_⟩
                have z6 := (HBX.out.cell (p := ⟨ge, q * 3, none⟩) hgey).trans HDy.out
                go_simp
                obtain ⟨x3, hE⟩ : ∃ W : World, W = x2 := ⟨_, rfl⟩
                subst hE
                refine hK (fun b => True) _ _ (fun b h => .inl h) (Mem.refl _ _) ?_
                clear z6
                clear hK K
                try simp only [Act.put, List.setIfInBounds_toArray, List.set_cons_zero, List.set_cons_succ]
                refine rgx_t (v := ?_) (some 85) 7 (by kernel_rfl) rfl rfl (.inl ⟨by rfl, fun w' q => ?_⟩) ?_
                rotate_left
                · go_simp <;> with_reducible rfl
                try simp only [Act.put, List.setIfInBounds_toArray, List.set_cons_zero, List.set_cons_succ]
                refine rgx_t (v := ?_) (some 88) 10 (by kernel_rfl) rfl rfl (.inl ⟨by rfl, fun w' q => ?_⟩) ?_
                rotate_left
                · go_simp <;> with_reducible rfl
                try simp only [Act.put, List.setIfInBounds_toArray, List.set_cons_zero, List.set_cons_succ]
                refine rgx_t (v := ?_) (some 89) 11 (by kernel_rfl) rfl rfl (.inl ⟨by rfl, fun w' q => ?_⟩) ?_
                rotate_left
                · go_simp <;> with_reducible rfl
                try simp only [Act.put, List.setIfInBounds_toArray, List.set_cons_zero, List.set_cons_succ]
                refine rgx_t (v := ?_) (some 90) 12 (by kernel_rfl) rfl rfl (.inl ⟨by rfl, fun w' q => ?_⟩) ?_
                rotate_left
                · go_simp <;> with_reducible rfl
                try simp only [Act.put, List.setIfInBounds_toArray, List.set_cons_zero, List.set_cons_succ]
                refine rgx_t (v := ?_) (some 91) 13 (by kernel_rfl) rfl rfl (.inl ⟨by rfl, fun w' q => ?_⟩) ?_
                rotate_left
                · go_simp <;> with_reducible rfl
                try simp only [Act.put, List.setIfInBounds_toArray, List.set_cons_zero, List.set_cons_succ]
                refine rgx_t (v := ?_) (some 92) 14 (by kernel_rfl) rfl rfl (.inl ⟨by rfl, fun w' q => ?_⟩) ?_
                rotate_left
                · go_simp <;> with_reducible rfl
                try simp only [Act.put, List.setIfInBounds_toArray, List.set_cons_zero, List.set_cons_succ]
                refine rgx_1 15 (by kernel_rfl) ?_
                refine ⟨_, rfl, by rfl, fun K hK => ?_⟩
                have hox := own_below HOy.out HBX.out (Nat.le_refl _)
                have dz : ∀ i, x3.frozen? ⟨ge, i, none⟩ = false := fun i => hox.frozenAt i
                have dl : ge < x3.heap.size := (hox.lt ge rfl).2
                have dc : x3.cell? ⟨ge, q * 3, none⟩ = some (.int .i64 at0) := (HBX.out.cell (p := ⟨ge, q * 3, none⟩) hgey).trans HDy.out
                go_simp
                have hst := (hox.stored (q * 3) (.int .i64 (((at0 + 1) * ch + 10) / 11))).1
                rw [HSET.out] at hst
                have hbf := (ext_trans HBy.out HBX.out).setCell (p := ⟨ge, q * 3, none⟩) (show w5.heap.size ≤ ge by omega) (.int .i64 (((at0 + 1) * ch + 10) / 11))
                have hm : Mem (fun b => True) x3 _ := (Mem.refl (fun b => True) x3).of_set (g := ge) (k := q * 3) (v := .int .i64 (((at0 + 1) * ch + 10) / 11)) trivial
                have HSF := Lib.hid hst
                have HBF := Lib.hid hbf
                refine hK (fun b => True) _ _ (fun b h => .inl h) hm ?_
                clear hst hbf hm hox dz dl dc
                clear hK K
                try simp only [Act.put, List.setIfInBounds_toArray, List.set_cons_zero, List.set_cons_succ]
                refine rgx_d (by kernel_rfl) ?_
                go_wp2_with fail
                go_roundw
                case rel => exact ⟨q + 1, by omega, by go_num, HSF.out, HBF.out⟩
                case measure => simp [intOf]; omega
          · obtain rfl : q = k := by omega
            have hown := HOq.out
            rw [evMix_end] at hown
            have HEV := Lib.hid hown
            clear hown
            obtain ⟨t15, ht15⟩ : ∃ z, t15Z b p = z := ⟨_, rfl⟩
            obtain ⟨t35, ht35⟩ : ∃ z, t35Z b p = z := ⟨_, rfl⟩
            have h1535 := H15.out
            rw [HCHE.out, ht15, ht35] at h1535
            obtain ⟨h15a, h15b⟩ := h1535
            obtain ⟨hin, hor, fi, la, hfrm⟩ := evL_frames (bsOf fs) ds0 ch t15 t35 1 6 q 200 (fun jj hj => by show (0 : Nat) ≤ 6; omega) hN1 (by omega) hch0 hch1 h15a h15b (.inr rfl) (fun jj hj => by rw [pos0]; omega) (by omega)
            rw [bs_vals HFB.out q HFL.out] at hfrm
            have HSP := Lib.hid (fun (W : World) (A : Option Addr) (c B : Nat) (hr : Rd W B 3 A q (evCells (evL (bsOf fs) ds0 ch 1 q 0))) (hB : B ≤ W.heap.size) => split_ok b p ch t15 t35 HV.out HCHE.out ht15 ht35 (evL (bsOf fs) ds0 ch 1 q 0) A q c B W hr hB (by omega))
            have HIN := Lib.hid hin
            have HOR := Lib.hid hor
            have HFRM := Lib.hid hfrm
            have HSB9 := Lib.hid (HSB5.out.below HBq.out)
            have HQ9 := Lib.hid (HQ5.out.below HBq.out)
            obtain ⟨qs, zs, ls⟩ := HSB9.out
            clear hin hor hfrm ht15 ht35 h15a h15b
            go_upto_region 19 with fail
            go_wp2_with fail
            refine (HSP.out _ _ _ _ (Rd.of_own HEV.out) (Nat.le_refl _)).mono ?_
            rintro e z3 ⟨vo, E, rfl, hok⟩
            obtain ⟨rfl, hb3, l2, A9, c9, rfl, hr2, hf2, hl2⟩ := hok.get HIN.out HOR.out HFRM.out
            have HB3 := Lib.hid (ext_trans HBq.out hb3)
            have HQ10 := Lib.hid (HQ9.out.below hb3)
            obtain ⟨fr, rfl⟩ : ∃ f, l2 = [f] := by
              rcases l2 with _ | ⟨f, _ | ⟨g, t⟩⟩
              · cases hl2
              · exact ⟨f, rfl⟩
              · simp at hl2
            obtain ⟨fA, fn, fc, fxs, ffi, fla, ffl⟩ := fr
            simp only [fz, List.map_cons, List.map_nil, List.cons.injEq, and_true, Fz.mk.injEq] at hl2
            obtain ⟨hfx, rfl, rfl, rfl⟩ := hl2
            subst hfx
            obtain ⟨b3, off3, rfl, hbl3, hc3⟩ := hr2.2 (by simp)
            have k0 : z3.cell? ⟨b3, off3, none⟩ = some (.slice fA fn fc) := hc3 0 (.slice fA fn fc) (by simp [frCells])
            have k1 : z3.cell? ⟨b3, off3 + 1, none⟩ = some (.int .i64 ffi) := hc3 1 (.int .i64 ffi) (by simp [frCells])
            have k2 : z3.cell? ⟨b3, off3 + 2, none⟩ = some (.int .i64 fla) := hc3 2 (.int .i64 fla) (by simp [frCells])
            have k3 : z3.cell? ⟨b3, off3 + 3, none⟩ = some (.int .i64 1) := hc3 3 (.int .i64 1) (by simp [frCells])
            obtain ⟨hfr, _, hfc1, hfc2⟩ := hf2 _ (List.mem_singleton.2 rfl)
            dsimp only at hfr hfc1 hfc2
            have hfn : fn = q := by have h1 := hfr.1; simp at h1; have := HFL.out; omega
            subst hfn
            have HB3 := Lib.hid (ext_trans HBq.out hb3)
            have HRF := Lib.hid hfr
            have HQ10 := Lib.hid (HQ9.out.below hb3)
            have HJ := Lib.hid (fun (W : World) (h : Below z3.heap.size z3 W) => (show Calls Try.prog 18 #[.int .i64 (1 + r), .agg #[.int .i64 f, .int .i64 a, .int .i64 n, .int .i64 c, .int .i64 o], .agg #[.slice fA fn fc, .int .i64 ffi, .int .i64 fla, .int .i64 1]] W fun e w' => e = .returned (.agg #[.int .i64 4, .int .i64 0, .int .i64 0, .slice none 0 0, .int .i64 0, .int .i64 0, .bool false, .int .i64 0, .slice none 0 0]) ∧ Below W.heap.size W w' from by
              have hr9 : Rd W W.heap.size 1 fA (2 + 3) (by8 (frameL (1 + r) pdu)) := by
                rw [HN.out, HFS.out]
                exact (HRF.out.below h (Nat.le_refl _)).more h.size
              exact judge_flag (1 + r) f a n c o pdu fA 2 fc fn ffi fla W (by omega) hr9 HBD.out HPL.out (by omega) (by omega) (by rw [HN.out]; exact hfc1) hfc2 HN.out))
            clear hok hr2 hf2 hc3 hfr hb3 qs zs ls
            go_upto_region 22 with fail
            have HBy := Lib.hid (below_drew (Below.refl z3.heap.size z3))
            have HBw := Lib.hid (below_drew (ext_trans HB5.out HB3.out))
            obtain ⟨qs, zs, ls⟩ := HQ10.out.drew
            have m0 : z3.drew.cell? ⟨b3, off3, none⟩ = some (.slice fA fn fc) := k0
            have m1 : z3.drew.cell? ⟨b3, off3 + 1, none⟩ = some (.int .i64 ffi) := k1
            have m2 : z3.drew.cell? ⟨b3, off3 + 2, none⟩ = some (.int .i64 fla) := k2
            have m3 : z3.drew.cell? ⟨b3, off3 + 3, none⟩ = some (.int .i64 1) := k3
            obtain ⟨y0, hy0⟩ : ∃ y, z3.drew = y := ⟨_, rfl⟩
            have hl9 : b3 < z3.drew.heap.size := hbl3
            rw [hy0] at HBy HBw qs zs ls m0 m1 m2 m3 hl9
            clear k0 k1 k2 k3
            refine rgx_start (by kernel_rfl) ?_
            rw [hy0]
            refine rgx_t (v := ?_) (some 110) 0 (by kernel_rfl) rfl rfl (.inl ⟨by rfl, fun w' q => ?_⟩) ?_
            rotate_left
            · go_simp <;> with_reducible rfl
            try simp only [Act.put, List.setIfInBounds_toArray, List.set_cons_zero, List.set_cons_succ]
            refine rgx_t (v := ?_) (some 111) 1 (by kernel_rfl) rfl rfl (.inl ⟨by rfl, fun w' q => ?_⟩) ?_
            rotate_left
            · go_simp <;> with_reducible rfl
            try simp only [Act.put, List.setIfInBounds_toArray, List.set_cons_zero, List.set_cons_succ]
            refine rgx_t (v := ?_) (some 112) 2 (by kernel_rfl) rfl rfl (.inl ⟨by rfl, fun w' q => ?_⟩) ?_
            rotate_left
            · go_simp <;> with_reducible rfl
            try simp only [Act.put, List.setIfInBounds_toArray, List.set_cons_zero, List.set_cons_succ]
            refine rgx_t (v := ?_) (some 113) 3 (by kernel_rfl) rfl rfl (.inl ⟨by rfl, fun w' q => ?_⟩) ?_
            rotate_left
            · go_simp <;> with_reducible rfl
            try simp only [Act.put, List.setIfInBounds_toArray, List.set_cons_zero, List.set_cons_succ]
            refine rgx_t (v := ?_) (some 114) 4 (by kernel_rfl) rfl rfl (.inl ⟨by rfl, fun w' q => ?_⟩) ?_
            rotate_left
            · go_simp <;> with_reducible rfl
            try simp only [Act.put, List.setIfInBounds_toArray, List.set_cons_zero, List.set_cons_succ]
            refine rgx_1 5 (by kernel_rfl) ?_
            refine ⟨_, rfl, by rfl, fun K hK => ?_⟩
            go_simp
            refine (HJ.out _ HBy.out).mono ?_
            rintro e x1 ⟨rfl, hb7⟩
            have HB11 := Lib.hid (ext_trans HBw.out hb7)
            refine hK (fun b => False) _ _ (fun b h => .inl h) (Mem.of_below hb7) ?_
            clear hb7
            clear hK K
            try simp only [Act.put, List.setIfInBounds_toArray, List.set_cons_zero, List.set_cons_succ]
            refine rgx_t (v := (Value.int/-_-/.i64/-_-/4)) (some 116) 6 (by kernel_rfl) rfl rfl (.inl ⟨by rfl, fun w' q => by first | kernel_rfl | rfl⟩) ?_
            try simp only [Act.put, List.setIfInBounds_toArray, List.set_cons_zero, List.set_cons_succ]
            refine rgx_t (v := ?_) (some 117) 7 (by kernel_rfl) rfl rfl (.inl ⟨by rfl, fun w' q => ?_⟩) ?_
            rotate_left
            · go_simp <;> with_reducible rfl
            try simp only [Act.put, List.setIfInBounds_toArray, List.set_cons_zero, List.set_cons_succ]
            refine rgx_t (v := ?_) (some 118) 8 (by kernel_rfl) rfl rfl (.inl ⟨by rfl, fun w' q => ?_⟩) ?_
            rotate_left
            · go_simp <;> with_reducible rfl
            try simp only [Act.put, List.setIfInBounds_toArray, List.set_cons_zero, List.set_cons_succ]
            refine rgx_1 9 (by kernel_rfl) ?_
            refine ⟨_, rfl, by rfl, fun K hK => ?_⟩
            go_simp
            refine (HAW.out _).mono ?_
            rintro e x2 ⟨rfl, hb8⟩
            have HB12 := Lib.hid (ext_trans HB11.out hb8)
            refine hK (fun b => False) _ _ (fun b h => .inl h) (Mem.of_below hb8) ?_
            clear hb8
            clear hK K
            try simp only [Act.put, List.setIfInBounds_toArray, List.set_cons_zero, List.set_cons_succ]
            refine rgx_t (v := ?_) (some 120) 10 (by kernel_rfl) rfl rfl (.inl ⟨by rfl, fun w' q => ?_⟩) ?_
            rotate_left
            · go_simp <;> with_reducible rfl
            try simp only [Act.put, List.setIfInBounds_toArray, List.set_cons_zero, List.set_cons_succ]
            refine rgx_t (v := ?_) (some 12) 11 (by kernel_rfl) rfl rfl (.inl ⟨by rfl, fun w' q => ?_⟩) ?_
            rotate_left
            · go_simp <;> with_reducible rfl
            try simp only [Act.put, List.setIfInBounds_toArray, List.set_cons_zero, List.set_cons_succ]
            refine rgx_d (by kernel_rfl) ?_
            go_wp2
            go_ret
            exact ⟨rfl, HB12.out⟩
end Go.Proofs.Ytoliplochipoeaa

/- Layer 19: the link's small functions. -/
set_option linter.unusedVariables false
set_option linter.unusedSimpArgs false
namespace Go.Proofs.Ytoliplochipoeaa
open Go.RowKit

theorem within_any (x lo hi : Int) (w : World) : Calls Try.prog 60 #[.int .i64 x, .int .i64 lo, .int .i64 hi] w fun e w' => e = .returned (.bool (decide (lo ≤ x ∧ x ≤ hi))) ∧ w = w' := by
  by_cases h1 : lo ≤ x
  · by_cases h2 : x ≤ hi
    · rw [show decide (lo ≤ x ∧ x ≤ hi) = true by simp [h1, h2]]
      go_enter Try.func60, Try.ntmps60
      go_wp2
      go_ret
      exact ⟨rfl, rfl⟩
    · rw [show decide (lo ≤ x ∧ x ≤ hi) = false by simp [h2]]
      go_enter Try.func60, Try.ntmps60
      go_wp2
      go_ret
      exact ⟨rfl, rfl⟩
  · rw [show decide (lo ≤ x ∧ x ≤ hi) = false by simp [h1]]
    go_enter Try.func60, Try.ntmps60
    go_wp2
    go_ret
    exact ⟨rfl, rfl⟩
theorem attempts_any (g : Nat) (k : Int) (w : World) (h : w.cell? ⟨g, 18, none⟩ = some (.int .i64 k)) : Calls Try.prog 47 #[.pointer (some ⟨g, 0, none⟩)] w fun e w' => e = .returned (.int .i64 k) ∧ w = w' := by
  go_enter Try.func47, Try.ntmps47
  go_wp2
  go_ret
  exact ⟨rfl, rfl⟩
end Go.Proofs.Ytoliplochipoeaa

/- Layer 6: the contract of Drain (picked out of XDrn). -/
set_option linter.unusedVariables false
set_option linter.unusedSimpArgs false
namespace Go.Proofs.Ytoliplochipoeaa
open Go.RowKit

theorem char_eq (b p z : Int) (h : charZ b p = z) (w : World) : Calls Try.prog 12 #[.agg #[.int .i64 b, .int .i64 p]] w fun e w' => e = .returned (.int .i64 z) ∧ Below w.heap.size w w' := h ▸ char_any b p w
theorem t35_eq (b p z : Int) (h : t35Z b p = z) (w : World) : Calls Try.prog 53 #[.agg #[.int .i64 b, .int .i64 p]] w fun e w' => e = .returned (.int .i64 z) ∧ Below w.heap.size w w' := h ▸ t35_any b p w
def drainZ (b p t d : Int) : Int := if validB b p = true ∧ decide (0 ≤ t ∧ t ≤ 5000000) = true ∧ decide (0 ≤ d ∧ d ≤ 5000000) = true then 2 * t35Z b p + t + d + 257 * charZ b p else 0
theorem t35_bd (b p : Int) : 0 ≤ t35Z b p ∧ t35Z b p ≤ 32084 := by
  unfold t35Z
  split
  · rename_i h
    simp only [validB, Bool.and_eq_true, decide_eq_true_eq] at h
    have := h.1
    simp only [bauds, List.mem_cons, List.not_mem_nil, or_false] at this
    rcases this with rfl | rfl | rfl | rfl | rfl | rfl | rfl | rfl <;> decide
  · omega
theorem drain_bd (b p t d : Int) : 0 ≤ drainZ b p t d ∧ drainZ b p t d ≤ 20000000 := by
  have h1 := t35_bd b p
  have h2 := char_bd b p
  unfold drainZ
  split
  · rename_i h
    have h3 : 0 ≤ t ∧ t ≤ 5000000 := by simpa using h.2.1
    have h4 : 0 ≤ d ∧ d ≤ 5000000 := by simpa using h.2.2
    omega
  · omega
theorem poss_any (x : Int) (r : Bool) (h : decide (0 ≤ x ∧ x ≤ 5000000) = r) (w : World) : Calls Try.prog 75 #[.int .i64 x] w fun e w' => e = .returned (.bool r) ∧ w = w' := by
  by_cases h1 : 0 ≤ x
  · by_cases h2 : x ≤ 5000000
    · obtain rfl : r = true := by rw [← h]; simp [h1, h2]
      clear h
      go_enter Try.func75, Try.ntmps75
      go_wp2
      go_ret
      exact ⟨rfl, rfl⟩
    · obtain rfl : r = false := by rw [← h]; simp [h2]
      clear h
      go_enter Try.func75, Try.ntmps75
      go_wp2
      go_ret
      exact ⟨rfl, rfl⟩
  · obtain rfl : r = false := by rw [← h]; simp [h1]
    clear h
    go_enter Try.func75, Try.ntmps75
    go_wp2
    go_ret
    exact ⟨rfl, rfl⟩
theorem drain_any (b p t d z : Int) (hz : drainZ b p t d = z) (w : World) : Calls Try.prog 61 #[.agg #[.int .i64 b, .int .i64 p], .int .i64 t, .int .i64 d] w fun e w' => e = .returned (.int .i64 z) ∧ Below w.heap.size w w' := by
  obtain ⟨r, hr⟩ : ∃ r, validB b p = r := ⟨_, rfl⟩
  obtain ⟨r1, hr1⟩ : ∃ r, decide (0 ≤ t ∧ t ≤ 5000000) = r := ⟨_, rfl⟩
  obtain ⟨r2, hr2⟩ : ∃ r, decide (0 ≤ d ∧ d ≤ 5000000) = r := ⟨_, rfl⟩
  have HV := Lib.hid (fun w => valid_any b p r hr w)
  have HP1 := Lib.hid (fun w => poss_any t r1 hr1 w)
  have HP2 := Lib.hid (fun w => poss_any d r2 hr2 w)
  obtain ⟨u, hu⟩ : ∃ u, t35Z b p = u := ⟨_, rfl⟩
  obtain ⟨c, hc⟩ : ∃ c, charZ b p = c := ⟨_, rfl⟩
  have HU := Lib.hid (fun w => t35_eq b p u hu w)
  have HC := Lib.hid (fun w => char_eq b p c hc w)
  have hub := t35_bd b p
  have hcb := char_bd b p
  have hz2 : (if r = true ∧ r1 = true ∧ r2 = true then 2 * u + t + d + 257 * c else 0) = z := by rw [← hz, drainZ, hr, hu, hc, hr1, hr2]
  rw [hu] at hub
  rw [hc] at hcb
  obtain ⟨hub1, hub2⟩ := hub
  obtain ⟨hcb1, hcb2⟩ := hcb
  clear hz hu hc hr
  cases r
  · obtain rfl : z = 0 := by rw [← hz2]; simp
    clear hz2 hr1 hr2
    go_enter Try.func61, Try.ntmps61
    go_wp2_with fail
    refine (HV.out _).mono ?_
    rintro e w1 ⟨rfl, hb1⟩
    go_wp2
    go_ret
    exact ⟨rfl, ext_alloc' (Below.refl _ w) (by simpa using hb1)⟩
  · cases r1
    · obtain rfl : z = 0 := by rw [← hz2]; simp
      clear hz2 hr1 hr2
      go_enter Try.func61, Try.ntmps61
      go_wp2_with fail
      refine (HV.out _).mono ?_
      rintro e w1 ⟨rfl, hb1⟩
      go_wp2_with fail
      refine (HP1.out _).mono ?_
      rintro e w2 ⟨rfl, rfl⟩
      go_wp2
      go_ret
      exact ⟨rfl, ext_alloc' (Below.refl _ w) (by simpa using hb1)⟩
    · cases r2
      · obtain rfl : z = 0 := by rw [← hz2]; simp
        clear hz2 hr1 hr2
        go_enter Try.func61, Try.ntmps61
        go_wp2_with fail
        refine (HV.out _).mono ?_
        rintro e w1 ⟨rfl, hb1⟩
        go_wp2_with fail
        refine (HP1.out _).mono ?_
        rintro e w2 ⟨rfl, rfl⟩
        go_wp2_with fail
        refine (HP2.out _).mono ?_
        rintro e w3 ⟨rfl, rfl⟩
        go_wp2
        go_ret
        exact ⟨rfl, ext_alloc' (Below.refl _ w) (by simpa using hb1)⟩
      · rw [if_pos ⟨rfl, rfl, rfl⟩] at hz2
        obtain ⟨ht1, ht2⟩ : 0 ≤ t ∧ t ≤ 5000000 := by simpa using hr1
        obtain ⟨hd1, hd2⟩ : 0 ≤ d ∧ d ≤ 5000000 := by simpa using hr2
        have HZ := Lib.hid hz2
        clear hz2 hr1 hr2
        go_enter Try.func61, Try.ntmps61
        go_wp2_with fail
        refine (HV.out _).mono ?_
        rintro e w1 ⟨rfl, hb1⟩
        have HB1 := Box.new hb1
        have hbw : Below w.heap.size w w1 := ext_alloc' (Below.refl _ w) (by simpa using hb1)
        clear hb1
        go_wp2_with fail
        refine (HP1.out _).mono ?_
        rintro e w2 ⟨rfl, rfl⟩
        go_wp2_with fail
        refine (HP2.out _).mono ?_
        rintro e w3 ⟨rfl, rfl⟩
        go_wp2_with fail
        have hS : (∀ i, w1.drew.cell? ⟨w.heap.size, i, none⟩ = (#[.int .i64 b, .int .i64 p] : Array Value)[i]?) ∧ True ∧ True := ⟨HB1.1, trivial, trivial⟩
        refine rgs_start (fun w' => (∀ i, w'.cell? ⟨w.heap.size, i, none⟩ = (#[.int .i64 b, .int .i64 p] : Array Value)[i]?) ∧ True ∧ True) (by kernel_rfl) ?_
        refine rgs_t (v := ?_) (some 20) 0 (by kernel_rfl) rfl rfl (by assumption) (.inl ⟨by rfl, fun w' hw => ?_⟩) ?_
        rotate_left
        · obtain ⟨q1, q2, q3⟩ := hw; go_simp <;> with_reducible rfl
        try simp only [Act.put, List.setIfInBounds_toArray, List.set_cons_zero, List.set_cons_succ]
        refine rgs_t (v := ?_) (some 23) 3 (by kernel_rfl) rfl rfl (by assumption) (.inl ⟨by rfl, fun w' hw => ?_⟩) ?_
        rotate_left
        · obtain ⟨q1, q2, q3⟩ := hw; go_simp <;> with_reducible rfl
        try simp only [Act.put, List.setIfInBounds_toArray, List.set_cons_zero, List.set_cons_succ]
        refine rgs_t (v := ?_) (some 25) 5 (by kernel_rfl) rfl rfl (by assumption) (.inl ⟨by rfl, fun w' hw => ?_⟩) ?_
        rotate_left
        · obtain ⟨q1, q2, q3⟩ := hw; go_simp <;> with_reducible rfl
        try simp only [Act.put, List.setIfInBounds_toArray, List.set_cons_zero, List.set_cons_succ]
        refine rgs_t (v := ?_) (some 27) 7 (by kernel_rfl) rfl rfl (by assumption) (.inl ⟨by rfl, fun w' hw => ?_⟩) ?_
        rotate_left
        · obtain ⟨q1, q2, q3⟩ := hw; go_simp <;> with_reducible rfl
        try simp only [Act.put, List.setIfInBounds_toArray, List.set_cons_zero, List.set_cons_succ]
        refine rgs_c 1 (by kernel_rfl) rfl (by rfl) (fun K hK => ?_)
        go_simp
        refine (HU.out _).mono ?_
        rintro e w4 ⟨rfl, hb4⟩
        have hb4' : Below w1.heap.size w1 w4 := (below_drew (Below.refl w1.heap.size w1)).trans hb4
        have hS4 : (∀ i, w4.cell? ⟨w.heap.size, i, none⟩ = (#[.int .i64 b, .int .i64 p] : Array Value)[i]?) ∧ True ∧ True := ⟨(HB1.below hb4').1, trivial, trivial⟩
        refine hK _ _ hS4 ?_
        clear hK K
        try simp only [Act.put, List.setIfInBounds_toArray, List.set_cons_zero, List.set_cons_succ]
        refine rgs_t (v := ?_) (some 22) 2 (by kernel_rfl) rfl rfl (by assumption) (.inl ⟨by rfl, fun w' hw => ?_⟩) ?_
        rotate_left
        · obtain ⟨q1, q2, q3⟩ := hw; go_simp <;> with_reducible rfl
        try simp only [Act.put, List.setIfInBounds_toArray, List.set_cons_zero, List.set_cons_succ]
        refine rgs_t (v := ?_) (some 24) 4 (by kernel_rfl) rfl rfl (by assumption) (.inl ⟨by rfl, fun w' hw => ?_⟩) ?_
        rotate_left
        · obtain ⟨q1, q2, q3⟩ := hw; go_simp <;> with_reducible rfl
        try simp only [Act.put, List.setIfInBounds_toArray, List.set_cons_zero, List.set_cons_succ]
        refine rgs_t (v := ?_) (some 26) 6 (by kernel_rfl) rfl rfl (by assumption) (.inl ⟨by rfl, fun w' hw => ?_⟩) ?_
        rotate_left
        · obtain ⟨q1, q2, q3⟩ := hw; go_simp <;> with_reducible rfl
        try simp only [Act.put, List.setIfInBounds_toArray, List.set_cons_zero, List.set_cons_succ]
        refine rgs_c 8 (by kernel_rfl) rfl (by rfl) (fun K hK => ?_)
        go_simp
        refine (HC.out _).mono ?_
        rintro e w5 ⟨rfl, hb5⟩
        have hb5' := ext_trans hb4' hb5
        have hS5 : (∀ i, w5.cell? ⟨w.heap.size, i, none⟩ = (#[.int .i64 b, .int .i64 p] : Array Value)[i]?) ∧ True ∧ True := ⟨(HB1.below hb5').1, trivial, trivial⟩
        refine hK _ _ hS5 ?_
        clear hK K
        try simp only [Act.put, List.setIfInBounds_toArray, List.set_cons_zero, List.set_cons_succ]
        refine rgs_t (v := ?_) (some 29) 9 (by kernel_rfl) rfl rfl (by assumption) (.inl ⟨by rfl, fun w' hw => ?_⟩) ?_
        rotate_left
        · obtain ⟨q1, q2, q3⟩ := hw; go_simp <;> with_reducible rfl
        try simp only [Act.put, List.setIfInBounds_toArray, List.set_cons_zero, List.set_cons_succ]
        refine rgs_t (v := ?_) (some 30) 10 (by kernel_rfl) rfl rfl (by assumption) (.inl ⟨by rfl, fun w' hw => ?_⟩) ?_
        rotate_left
        · obtain ⟨q1, q2, q3⟩ := hw; go_simp <;> with_reducible rfl
        try simp only [Act.put, List.setIfInBounds_toArray, List.set_cons_zero, List.set_cons_succ]
        refine rgs_t (v := ?_) (some 6) 11 (by kernel_rfl) rfl rfl (by assumption) (.inl ⟨by rfl, fun w' hw => ?_⟩) ?_
        rotate_left
        · obtain ⟨q1, q2, q3⟩ := hw; go_simp <;> with_reducible rfl
        try simp only [Act.put, List.setIfInBounds_toArray, List.set_cons_zero, List.set_cons_succ]
        refine rgs_d (by kernel_rfl) ?_
        go_wp2
        go_ret
        refine ⟨?_, ext_trans hbw hb5'⟩
        have e1 : IntKind.i64.wrap (2 * u) = 2 * u := IntWalk.i64_in _ ⟨by omega, by omega⟩
        have e2 : IntKind.i64.wrap (2 * u + t) = 2 * u + t := IntWalk.i64_in _ ⟨by omega, by omega⟩
        have e3 : IntKind.i64.wrap (2 * u + t + d) = 2 * u + t + d := IntWalk.i64_in _ ⟨by omega, by omega⟩
        have e4 : IntKind.i64.wrap (257 * c) = 257 * c := IntWalk.i64_in _ ⟨by omega, by omega⟩
        have e5 : IntKind.i64.wrap (2 * u + t + d + 257 * c) = 2 * u + t + d + 257 * c := IntWalk.i64_in _ ⟨by omega, by omega⟩
        rw [e1, e2, e3, e4, e5, HZ.out]
        rfl
end Go.Proofs.Ytoliplochipoeaa

/- Memory in which only the blocks of a set, and new ones, have changed. -/
set_option linter.unusedVariables false
set_option linter.unusedSimpArgs false
namespace Go.Proofs.Ytoliplochipoeaa
open Go.RowKit

theorem own_box {w : World} {base : Nat} {e : TypeId} {size n : Nat} {v : Value} {xs : List Value} (h : w.ownsRow base e size v n xs) (o : Obj) : (w.alloc o).ownsRow base e size v n xs := h.alloc o
/-- Only the blocks X and new memory have changed. -/
def ChX (X : Nat → Prop) (w w' : World) : Prop := w'.os = w.os ∧ w'.tape = w.tape ∧ w'.output = w.output ∧ w.heap.size ≤ w'.heap.size ∧ ∀ i, i < w.heap.size → ¬ X i → w'.heap[i]? = w.heap[i]?
section
variable {X Y : Nat → Prop} {a w w' : World}
theorem ChX.refl (X : Nat → Prop) (w : World) : ChX X w w := ⟨rfl, rfl, rfl, Nat.le_refl _, fun _ _ _ => rfl⟩
theorem ChX.size (h : ChX X w w') : w.heap.size ≤ w'.heap.size := h.2.2.2.1
theorem ChX.block (h : ChX X w w') {i : Nat} (hi : i < w.heap.size) (hx : ¬ X i) : w'.heap[i]? = w.heap[i]? := h.2.2.2.2 i hi hx
theorem ChX.mono (h : ChX X w w') (hx : ∀ i, X i → Y i) : ChX Y w w' := ⟨h.1, h.2.1, h.2.2.1, h.2.2.2.1, fun i hi hn => h.2.2.2.2 i hi (fun k => hn (hx i k))⟩
/-- X may hold blocks that are new. -/
theorem ChX.monoN (h : ChX X w w') (hx : ∀ i, i < w.heap.size → X i → Y i) : ChX Y w w' := ⟨h.1, h.2.1, h.2.2.1, h.2.2.2.1, fun i hi hn => h.2.2.2.2 i hi (fun k => hn (hx i hi k))⟩
theorem ChX.trans (h : ChX X a w) (k : ChX Y w w') (hy : ∀ i, i < a.heap.size → Y i → X i) : ChX X a w' :=
  ⟨k.1.trans h.1, k.2.1.trans h.2.1, k.2.2.1.trans h.2.2.1, Nat.le_trans h.size k.size, fun i hi hn => (k.block (Nat.lt_of_lt_of_le hi h.size) (fun q => hn (hy i hi q))).trans (h.block hi hn)⟩
theorem ChX.of_below (hb : Below w.heap.size w w') : ChX X w w' := ⟨hb.os, hb.tape, hb.output, hb.size, fun i hi _ => hb.block i hi⟩
theorem ChX.below (h : ChX X a w) (hb : Below w.heap.size w w') : ChX X a w' := h.trans (ChX.of_below (X := X) hb) (fun _ _ k => k)
theorem ChX.of_grown {row : Option Nat} (hg : w.grownBy w' row) (hr : ∀ b, row = some b → X b) : ChX X w w' := ⟨hg.os, hg.tape, hg.output, hg.size, fun i hi hn => hg.block i hi (fun e => hn (hr i e.symm))⟩
theorem ChX.grown {row : Option Nat} (h : ChX X a w) (hg : w.grownBy w' row) (hr : ∀ b, row = some b → b < a.heap.size → X b) : ChX X a w' :=
  h.trans (ChX.of_grown (X := fun i => row = some i) hg (fun _ e => e)) (fun i hi k => hr i k hi)
theorem ChX.of_set {g k : Nat} {v : Value} (hx : X g) : ChX X w (w.setCell ⟨g, k, none⟩ v) := ⟨rfl, rfl, rfl, by simp [World.setCell], fun i _ hn => Below.heap_setCell w ⟨g, k, none⟩ v i (by rintro rfl; exact hn hx)⟩
theorem ChX.set (h : ChX X a w) {g k : Nat} {v : Value} (hx : g < a.heap.size → X g) : ChX X a (w.setCell ⟨g, k, none⟩ v) :=
  h.trans (ChX.of_set (X := fun i => i = g) rfl) (fun i hi k => by subst k; exact hx hi)
theorem ChX.drew (h : ChX X a w) : ChX X a w.drew := h
theorem ChX.drewN (h : ChX X a w) (n : Nat) : ChX X a (w.drewN n) := h
theorem ChX.mem (h : ChX X w w') : Mem X w w' := ⟨h.size, fun b hb hn => h.block hb hn⟩
theorem Box.chx {b : Nat} {cs : Array Value} (h : Box w b cs) (hc : ChX X w w') (hn : ¬ X b) : Box w' b cs := by
  have hblk := hc.block h.2.2 hn
  refine ⟨fun i => ?_, fun i => ?_, heap_some hblk h.2.2⟩
  · rw [World.cell?_of_block (a := ⟨b, i, none⟩) hblk]; exact h.1 i
  · rw [frozen_of_block (p := ⟨b, i, none⟩) hblk]; exact h.2.1 i
theorem Rd.chx {B size n : Nat} {A : Option Addr} {xs : List Value} (h : Rd w B size A n xs) (hB : B ≤ w.heap.size) (hc : ChX X w w') (hn : 0 < n → ∀ b off, A = some ⟨b, off, none⟩ → ¬ X b) : Rd w' B size A n xs := by
  refine ⟨h.1, fun h0 => ?_⟩
  obtain ⟨b, off, e, hb, hcell⟩ := h.2 h0
  refine ⟨b, off, e, hb, fun j u hu => ?_⟩
  rw [World.cell?_of_block (a := ⟨b, off + j, none⟩) (hc.block (Nat.lt_of_lt_of_le hb hB) (hn h0 b off e))]
  exact hcell j u hu
theorem own_chx {base : Nat} {e : TypeId} {size n : Nat} {v : Value} {xs : List Value} (h : w.ownsRow base e size v n xs) (hc : ChX X w w') (hn : ∀ b, v.ownBlock = some b → ¬ X b) : w'.ownsRow base e size v n xs := by
  refine ⟨h.1, ?_⟩
  rcases h.2 with h | ⟨g, cap, cur, rfl, hb', hgg, rest⟩
  · exact .inl h
  · refine .inr ⟨g, cap, cur, rfl, hb', ?_, rest⟩
    rw [hc.block (Array.getElem?_eq_some_iff.1 hgg).1 (hn g rfl)]
    exact hgg
theorem below_chx {B : Nat} {w0 : World} (h : Below B w0 w) (hc : ChX X w w') (hB : B ≤ w.heap.size) (hx : ∀ i, X i → B ≤ i) : Below B w0 w' :=
  ⟨hc.1.trans h.os, hc.2.1.trans h.tape, hc.2.2.1.trans h.output, Nat.le_trans h.size hc.size, fun i hi => (hc.block (Nat.lt_of_lt_of_le hi hB) (fun k => by have := hx i k; omega)).trans (h.block i hi)⟩
end
end Go.Proofs.Ytoliplochipoeaa


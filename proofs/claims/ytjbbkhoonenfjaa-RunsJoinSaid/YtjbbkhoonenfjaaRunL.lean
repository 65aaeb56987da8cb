/- RunsJoin: the walk. -/
import Derived.Test.YtjbbkhoonenfjaaRunK
set_option linter.unusedVariables false
set_option linter.unusedSimpArgs false
namespace Go.Proofs.Ytjbbkhoonenfjaa
open Go.RowKit

set_option maxRecDepth 100000 in
set_option maxHeartbeats 4000000 in
theorem lawJoin_any (cs xs : List Int) (A A2 : Option Addr) (n n2 c c2 : Nat) (w : World) (hr : Rd w w.heap.size 1 A n (i64s cs)) (hr2 : Rd w w.heap.size 1 A2 n2 (i64s xs)) (hm : n ≤ maxLen) (hm2 : n2 ≤ maxLen) (hi : ∀ x ∈ cs, -9223372036854775808 ≤ x ∧ x ≤ 9223372036854775807) :
    Calls Try.prog 4 #[.slice A n c, .slice A2 n2 c2] w fun e w' => e = .returned (.bool true) ∧ Below w.heap.size w w' := by
  unfold maxLen at hm hm2
  have hl : cs.length = n := by have := hr.1; simpa using this
  have hl2 : xs.length = n2 := by have := hr2.1; simpa using this
  obtain ⟨l, hll⟩ : ∃ l, ijL cs xs = l := ⟨_, rfl⟩
  have hlen := ijL_length cs xs
  have hget : ∀ (k : Nat) (h : k < l.length), l[k] = (cs.getD k 0, xs.getD k 0 % 4) := by subst hll; exact ijL_get cs xs
  rw [hll] at hlen
  obtain ⟨m, hlm⟩ : ∃ m, l.length = m := ⟨_, rfl⟩
  have hm12 : m ≤ 12 := by omega
  have hmn : m ≤ n := by omega
  have hmn2 : m ≤ n2 := by omega
  have hmx : m = 12 ∨ m = n ∨ m = n2 := by omega
  have hci : ∀ r ∈ l, -9223372036854775808 ≤ r.1 ∧ r.1 ≤ 9223372036854775807 := by
    intro r hrm
    obtain ⟨k, hk, rfl⟩ := List.getElem_of_mem hrm
    rw [hget k hk]
    have hkc : k < cs.length := by omega
    simp only [List.getD, List.getElem?_eq_getElem hkc, Option.getD_some]
    exact hi _ (List.getElem_mem hkc)
  have HR := Lib.hid hr
  have HR2 := Lib.hid hr2
  have HG := Lib.hid hget
  have HLM := Lib.hid hlm
  have HCI := Lib.hid hci
  clear hr hr2 hget hci hll hlen hl hl2 hi hlm
  go_enter Try.func4, Try.ntmps4
  go_wp2_with fail
  go_loopw [5, 6, 7, 8, 9, 10] (fun rv vv g i p kk wr => ∃ (k : Nat) (V : List Int), k ≤ m ∧ i = .int .i64 k ∧ g = .bool (gdA none (l.take k)) ∧ wr.ownsRow w.heap.size 36 2 rv k (ijCells (l.take k)) ∧ wr.ownsRow w.heap.size 3 1 vv V.length (i64s V) ∧ V.length ≤ 100 * k ∧ (gdA none (l.take k) = true → V = expand (toRn (l.take k))) ∧ Apart rv vv ∧ Below w.heap.size w wr) (fun _ _ _ i _ _ _ => m - (intOf i).toNat)
  case atStart => exact ⟨0, [], by omega, rfl, rfl, World.ownsRow_nil _ _ _ _, World.ownsRow_nil _ _ _ _, by simp, fun _ => rfl, fun b hb => by simp [Value.ownBlock] at hb, Below.refl _ _⟩
  case round =>
    obtain ⟨k, V, hk, rfl, rfl, hown, hov, hV, hVe, hap, hbw⟩ := hrel
    have HO := Lib.hid hown
    have HV := Lib.hid hov
    have HVE := Lib.hid hVe
    have HAP := Lib.hid hap
    clear hown hov hVe hap
    by_cases hlt : k < m
    · obtain ⟨b, off, rfl, hbl, x0⟩ := int_at (HR.out.below hbw (Nat.le_refl _)) k (by omega)
      obtain ⟨b2, off2, rfl, hbl2, y0⟩ := int_at (HR2.out.below hbw (Nat.le_refl _)) k (by omega)
      have hkl : k < l.length := by rw [HLM.out]; exact hlt
      have hg := HG.out k hkl
      have hcb := HCI.out _ (List.getElem_mem hkl)
      obtain ⟨c0, hc0⟩ : ∃ c0, cs.getD k 0 = c0 := ⟨_, rfl⟩
      obtain ⟨q0, hq0⟩ : ∃ q0, xs.getD k 0 = q0 := ⟨_, rfl⟩
      obtain ⟨r0, hr0⟩ : ∃ r0, q0 % 4 = r0 := ⟨_, rfl⟩
      rw [hc0] at x0 hg
      rw [hq0] at y0 hg
      rw [hr0] at hg
      rw [hg] at hcb
      simp only at hcb
      obtain ⟨hcb1, hcb2⟩ := hcb
      have HM := Lib.hid (fun w => mod_eq q0 4 r0 (by omega) (by omega) hr0 w)
      have HGT := Lib.hid hg
      clear hg hc0 hq0 hr0
      have h12 : (k : Int) < 12 := by omega
      go_wp2_with fail
      have hS : (wr.drew.cell? ⟨b, off + k, none⟩ = some (.int .i64 c0)) ∧ (wr.drew.cell? ⟨b2, off2 + k, none⟩ = some (.int .i64 q0)) ∧ True := ⟨x0, y0, trivial⟩
      refine rgs_start (fun w' => (w'.cell? ⟨b, off + k, none⟩ = some (.int .i64 c0)) ∧ (w'.cell? ⟨b2, off2 + k, none⟩ = some (.int .i64 q0)) ∧ True) (by kernel_rfl) ?_
      refine rgs_t (v := ?_) (some 30) 0 (by kernel_rfl) rfl rfl (by assumption) (.inl ⟨by rfl, fun w' hw => ?_⟩) ?_
      rotate_left
      · obtain ⟨q1, q2, q3⟩ := hw; go_simp <;> with_reducible rfl
      try simp only [Act.put, List.setIfInBounds_toArray, List.set_cons_zero, List.set_cons_succ]
      refine rgs_t (v := ?_) (some 31) 1 (by kernel_rfl) rfl rfl (by assumption) (.inl ⟨by rfl, fun w' hw => ?_⟩) ?_
      rotate_left
      · obtain ⟨q1, q2, q3⟩ := hw; go_simp <;> with_reducible rfl
      try simp only [Act.put, List.setIfInBounds_toArray, List.set_cons_zero, List.set_cons_succ]
      refine rgs_t (v := ?_) (some 32) 2 (by kernel_rfl) rfl rfl (by assumption) (.inl ⟨by rfl, fun w' hw => ?_⟩) ?_
      rotate_left
      · obtain ⟨q1, q2, q3⟩ := hw; go_simp <;> with_reducible rfl
      try simp only [Act.put, List.setIfInBounds_toArray, List.set_cons_zero, List.set_cons_succ]
      refine rgs_t (v := ?_) (some 33) 3 (by kernel_rfl) rfl rfl (by assumption) (.inl ⟨by rfl, fun w' hw => ?_⟩) ?_
      rotate_left
      · obtain ⟨q1, q2, q3⟩ := hw; go_simp <;> with_reducible rfl
      try simp only [Act.put, List.setIfInBounds_toArray, List.set_cons_zero, List.set_cons_succ]
      refine rgs_t (v := ?_) (some 34) 4 (by kernel_rfl) rfl rfl (by assumption) (.inl ⟨by rfl, fun w' hw => ?_⟩) ?_
      rotate_left
      · obtain ⟨q1, q2, q3⟩ := hw; go_simp <;> with_reducible rfl
      try simp only [Act.put, List.setIfInBounds_toArray, List.set_cons_zero, List.set_cons_succ]
      refine rgs_t (v := ?_) (some 35) 5 (by kernel_rfl) rfl rfl (by assumption) (.inl ⟨by rfl, fun w' hw => ?_⟩) ?_
      rotate_left
      · obtain ⟨q1, q2, q3⟩ := hw; go_simp <;> with_reducible rfl
      try simp only [Act.put, List.setIfInBounds_toArray, List.set_cons_zero, List.set_cons_succ]
      refine rgs_t (v := ?_) (some 36) 6 (by kernel_rfl) rfl rfl (by assumption) (.inl ⟨by rfl, fun w' hw => ?_⟩) ?_
      rotate_left
      · obtain ⟨q1, q2, q3⟩ := hw; go_simp <;> with_reducible rfl
      try simp only [Act.put, List.setIfInBounds_toArray, List.set_cons_zero, List.set_cons_succ]
      refine rgs_t (v := ?_) (some 37) 7 (by kernel_rfl) rfl rfl (by assumption) (.inl ⟨by rfl, fun w' hw => ?_⟩) ?_
      rotate_left
      · obtain ⟨q1, q2, q3⟩ := hw; go_simp <;> with_reducible rfl
      try simp only [Act.put, List.setIfInBounds_toArray, List.set_cons_zero, List.set_cons_succ]
      refine rgs_q (v := ?_) (some 38) 8 (by kernel_rfl) rfl rfl (by assumption) (by rfl) (fun w' hw K hK => ?_) ?_
      rotate_left
      · obtain ⟨q1, q2, q3⟩ := hw
        go_simp
        refine (HM.out _).mono ?_
        rintro e w1 ⟨rfl, rfl⟩
        exact hK
      try simp only [Act.put, List.setIfInBounds_toArray, List.set_cons_zero, List.set_cons_succ]
      refine rgs_t (v := ?_) (some 39) 9 (by kernel_rfl) rfl rfl (by assumption) (.inl ⟨by rfl, fun w' hw => ?_⟩) ?_
      rotate_left
      · obtain ⟨q1, q2, q3⟩ := hw; go_simp <;> with_reducible rfl
      try simp only [Act.put, List.setIfInBounds_toArray, List.set_cons_zero, List.set_cons_succ]
      refine rgs_c 10 (by kernel_rfl) rfl (by rfl) (fun K hK => ?_)
      go_simp
      rw [show (wr.alloc (.cells #[.int .i64 0, .int .i64 0] 36)).drew = wr.drew.alloc (.cells #[.int .i64 0, .int .i64 0] 36) from rfl]
      obtain ⟨W1, hW1⟩ : ∃ W1, wr.drew.alloc (.cells #[.int .i64 0, .int .i64 0] 36) = W1 := ⟨_, rfl⟩
      have hB1 : Box W1 wr.heap.size #[.int .i64 0, .int .i64 0] := hW1 ▸ Box.alloc_ (w := wr.drew)
      have hb1 : Below wr.heap.size wr W1 := hW1 ▸ (below_drew (Below.refl wr.heap.size wr)).alloc (Nat.le_refl _) _
      rw [hW1]
      clear hW1
      have hbs : b < wr.heap.size := Nat.lt_of_lt_of_le hbl hbw.size
      have hbs2 : b2 < wr.heap.size := Nat.lt_of_lt_of_le hbl2 hbw.size
      have hS1 : (W1.cell? ⟨b, off + k, none⟩ = some (.int .i64 c0)) ∧ (W1.cell? ⟨b2, off2 + k, none⟩ = some (.int .i64 q0)) ∧ True := ⟨(hb1.cell hbs).trans x0, (hb1.cell hbs2).trans y0, trivial⟩
      obtain ⟨qq, zz, ll⟩ := hB1
      refine hK _ _ hS1 ?_
      clear hK K
      try simp only [Act.put, List.setIfInBounds_toArray, List.set_cons_zero, List.set_cons_succ]
      refine rgs_c 11 (by kernel_rfl) rfl (by rfl) (fun K hK => ?_)
      go_simp
      have hB2 := (Box.set (k := 0) (v := .int .i64 c0) (cs' := #[.int .i64 c0, .int .i64 0]) ⟨qq, zz, ll⟩ (by simp) rfl).set (k := 1) (v := .int .i64 r0) (cs' := #[.int .i64 c0, .int .i64 r0]) (by simp) rfl
      have hb2 := (hb1.setCell (p := ⟨wr.heap.size, 0, none⟩) (Nat.le_refl _) (.int .i64 c0)).setCell (p := ⟨wr.heap.size, 1, none⟩) (Nat.le_refl _) (.int .i64 r0)
      have hS2 : (((W1.setCell ⟨wr.heap.size, 0, none⟩ (.int .i64 c0)).setCell ⟨wr.heap.size, 1, none⟩ (.int .i64 r0)).cell? ⟨b, off + k, none⟩ = some (.int .i64 c0)) ∧ (((W1.setCell ⟨wr.heap.size, 0, none⟩ (.int .i64 c0)).setCell ⟨wr.heap.size, 1, none⟩ (.int .i64 r0)).cell? ⟨b2, off2 + k, none⟩ = some (.int .i64 q0)) ∧ True := ⟨(hb2.cell hbs).trans x0, (hb2.cell hbs2).trans y0, trivial⟩
      refine hK _ _ hS2 ?_
      clear hK K
      try simp only [Act.put, List.setIfInBounds_toArray, List.set_cons_zero, List.set_cons_succ]
      refine rgs_d (by kernel_rfl) ?_
      clear qq zz ll hb1 hS1 hS2 hS x0 y0
      revert hB2 hb2
      generalize ((W1.setCell ⟨wr.heap.size, 0, none⟩ (.int .i64 c0)).setCell ⟨wr.heap.size, 1, none⟩ (.int .i64 r0)) = W2
      intro hB2 hb2
      clear W1
      have hb2' := hb2
      have hbw2 := ext_trans hbw hb2
      have HO2 := Lib.hid (own_below HO.out hb2 (Nat.le_refl _))
      have HV2 := Lib.hid (own_below HV.out hb2 (Nat.le_refl _))
      have HB2 := Lib.hid hB2
      have hn5 : some wr.heap.size ≠ u5.ownBlock := fun e => by have := (HO.out.lt _ e.symm).2; omega
      have hn6 : some wr.heap.size ≠ u6.ownBlock := fun e => by have := (HV.out.lt _ e.symm).2; omega
      have hwr : w.heap.size ≤ wr.heap.size := hbw.size
      have hs2 : wr.heap.size < W2.heap.size := hB2.2.2
      clear HO HV hb2 hbw hb2' hbs hbs2
      obtain ⟨gb, hgb⟩ : ∃ gb, wr.heap.size = gb := ⟨_, rfl⟩
      rw [hgb] at hB2 HB2 hn5 hn6 hwr hs2 ⊢
      clear hgb wr
      go_upto_region 8 with fail
      obtain ⟨bd, hbd⟩ : ∃ bd, decide (prevOf l k = some r0 ∨ c0 < 1 ∨ 100 < c0) = bd := ⟨_, rfl⟩
      go_cut [62] (fun v x => v = .bool bd ∧ ∃ z, x = W2.drewN z)
      case first =>
        obtain ⟨A5, c5, hu5, _, hR5⟩ := own_form HO2.out
        subst hu5
        obtain ⟨qq, zz, ll⟩ := HB2.out
        have y0 : W2.cell? ⟨gb, 0, none⟩ = some (.int .i64 c0) := qq 0
        have y1 : W2.cell? ⟨gb, 1, none⟩ = some (.int .i64 r0) := qq 1
        clear HO2 HV2 HB2 HR HR2 hB2 qq zz HM
        by_cases hk0 : k = 0
        · subst hk0
          have hp : prevOf l 0 = none := rfl
          rw [hp] at hbd
          by_cases hc1 : c0 < 1
          · obtain rfl : bd = true := by rw [← hbd]; simp [hc1]
            have hc1' : decide (c0 < 1) = true := by simpa using hc1
            go_quiet (fail)
            go_wp2_with fail
            go_meet
            case rel => exact ⟨rfl, _, rfl⟩
          · have hc1' : decide (c0 < 1) = false := by simpa using hc1
            by_cases hc2 : 100 < c0
            · obtain rfl : bd = true := by rw [← hbd]; simp [hc2]
              have hc2' : decide (100 < c0) = true := by simpa using hc2
              go_quiet (fail)
              go_wp2_with fail
              go_meet
              case rel => exact ⟨rfl, _, rfl⟩
            · obtain rfl : bd = false := by rw [← hbd]; simp only [decide_eq_false_iff_not]; (intro h; rcases h with h | h | h <;> first | cases h | omega)
              have hc2' : decide (100 < c0) = false := by simpa using hc2
              go_quiet (fail)
              go_wp2_with fail
              go_meet
              case rel => exact ⟨rfl, _, rfl⟩
        · obtain ⟨b', o', rfl, _, hk1', x0, x1⟩ := ij_cells hR5 (k - 1) (by omega)
          obtain ⟨v1, hv1⟩ : ∃ v1, (l.take k)[k - 1].2 = v1 := ⟨_, rfl⟩
          rw [hv1] at x1
          have hp : prevOf l k = some v1 := by
            rw [prevOf, if_neg hk0, List.getElem?_eq_getElem (by omega), Option.map_some, ← hv1]
            simp
          rw [hp] at hbd
          have hk00 : decide (0 < k) = true := by simp; omega
          have hk01 : decide ((0 : Int) < (k : Int)) = true := by simp; omega
          have f3 : IntKind.i64.wrap ((k : Int) - 1) = ((k - 1 : Nat) : Int) := by rw [IntWalk.i64_in _ ⟨by omega, by omega⟩]; omega
          have hkm : k - 1 < k := by omega
          clear hv1 hp hR5
          by_cases hv : v1 = r0
          · obtain rfl : bd = true := by rw [← hbd]; simp [hv]
            have hvd : (v1 == r0) = true := by simpa using hv
            go_quiet (fail)
            go_wp2_with fail
            go_meet
            case rel => exact ⟨rfl, _, rfl⟩
          · have hvd : (v1 == r0) = false := by simpa using hv
            by_cases hc1 : c0 < 1
            · obtain rfl : bd = true := by rw [← hbd]; simp [hc1]
              have hc1' : decide (c0 < 1) = true := by simpa using hc1
              go_quiet (fail)
              go_wp2_with fail
              go_meet
              case rel => exact ⟨rfl, _, rfl⟩
            · have hc1' : decide (c0 < 1) = false := by simpa using hc1
              by_cases hc2 : 100 < c0
              · obtain rfl : bd = true := by rw [← hbd]; simp [hc2]
                have hc2' : decide (100 < c0) = true := by simpa using hc2
                go_quiet (fail)
                go_wp2_with fail
                go_meet
                case rel => exact ⟨rfl, _, rfl⟩
              · obtain rfl : bd = false := by rw [← hbd]; simp only [decide_eq_false_iff_not]; (intro h; rcases h with h | h | h <;> first | (injection h with h; exact hv h) | omega)
                have hc2' : decide (100 < c0) = false := by simpa using hc2
                go_quiet (fail)
                go_wp2_with fail
                go_meet
                case rel => exact ⟨rfl, _, rfl⟩
      case rest =>
        obtain ⟨rfl, z, rfl⟩ := hcut
        have hstep := gdA_step l k hkl
        have hsn := ijCells_snoc l k hkl
        have hex := toRn_expand_snoc l k hkl
        rw [HGT.out] at hstep hsn hex
        simp only [hbd] at hstep
        have HSN := Lib.hid hsn
        have HEX := Lib.hid hex
        have HST := Lib.hid hstep
        have HO3 := Lib.hid (own_below HO2.out (below_drewN (Below.refl _ _) z) (Nat.le_refl _))
        have HV3 := Lib.hid (own_below HV2.out (below_drewN (Below.refl _ _) z) (Nat.le_refl _))
        have HB3 := Lib.hid (HB2.out.drewN z)
        have hbw3 := below_drewN hbw2 z
        have hs3 : gb < (W2.drewN z).heap.size := hs2
        have hbd2 := hbd
        clear HO2 HV2 HB2 hB2 hbw2 hs2 hbd hstep hsn hex
        revert HO3 HV3 HB3 hbw3 hs3
        generalize W2.drewN z = W3
        intro HO3 HV3 HB3 hbw3 hs3
        obtain ⟨qq, zz, ll⟩ := HB3.out
        obtain ⟨g0, hg0⟩ : ∃ g0, gdA none (l.take k) = g0 := ⟨_, rfl⟩
        rw [hg0] at HST HVE ⊢
        rcases (show (bd = true ∨ (bd = false ∧ g0 = false)) ∨ (bd = false ∧ g0 = true) by cases bd <;> cases g0 <;> simp) with hbad | ⟨rfl, rfl⟩
        · have hg1 : gdA none (l.take (k + 1)) = false := by rw [HST.out]; rcases hbad with rfl | ⟨rfl, rfl⟩ <;> simp
          have HG1 := Lib.hid hg1
          clear hg1 hg0 hbd2
          rcases hbad with rfl | ⟨rfl, rfl⟩
          all_goals
            go_wp2_with (at_builtin; refine wpList_appN (.tmp 63) (.tmp 65) 34 w.heap.size 36 _ 2 16 _ k (ijCells (l.take k)) (W3.heap.size + 1) (some ⟨W3.heap.size, 0, none⟩) 1 1 _ Try.underlying34 rnInfo rfl (by decide) rfl rfl rfl rfl (own_box HO3.out _) (Rd.lit rfl (Nat.lt_succ_self _)) (two_one _ _) (by omega) (by omega) (by simp; omega) ?_; intro v1 w1 hown1 hg1 hn1 hb1)
            rw [← HSN.out] at hown1
            have hB4 := (HB3.out.alloc' (.cells #[.int .i64 c0, .int .i64 r0] 36)).row hg1 hn5
            have hV4 := own_off (own_box HV3.out (.cells #[.int .i64 c0, .int .i64 r0] 36)) hg1 HAP.out.symm
            have hA4 := HAP.out.next (own_box HV3.out (.cells #[.int .i64 c0, .int .i64 r0] 36)) hn1
            have hbw4 := below_row (hbw3.alloc hbw3.size (.cells #[.int .i64 c0, .int .i64 r0] 36)) (own_box HO3.out _) hg1 (Nat.le_refl _) (by simp; omega)
            have hs4 : gb < w1.heap.size := hB4.2.2
            have HO4 := Lib.hid hown1
            have HV4 := Lib.hid hV4
            have HB4 := Lib.hid hB4
            have HA4 := Lib.hid hA4
            clear hown1 hg1 hn1 hb1 hB4 hV4 hA4 hbw3 HB3 HV3 HO3 HAP qq zz ll
            go_loopw [6, 10] (fun vv kk wq => kk = .int .i64 0 ∧ vv = u6 ∧ wq = w1) (fun _ _ _ => 0)
            case atStart => exact ⟨rfl, rfl, rfl⟩
            case round =>
              obtain ⟨rfl, rfl, rfl⟩ := hrel
              obtain ⟨qq, zz, ll⟩ := HB4.out
              have y0 : wr.cell? ⟨gb, 0, none⟩ = some (.int .i64 c0) := qq 0
              by_cases hpos : 0 < c0
              all_goals
                go_wp2_with fail
                go_roundw
                case rel =>
                  exact ⟨k + 1, V, by omega, by go_num, by rw [HG1.out], HO4.out, HV4.out, by omega, fun h => (by rw [HG1.out] at h; cases h), HA4.out, hbw4⟩
                case measure => simp [intOf]; omega
        · have hg1 : gdA none (l.take (k + 1)) = true := by rw [HST.out]; rfl
          have HG1 := Lib.hid hg1
          have hVe := HVE.out rfl
          have hcp : 1 ≤ c0 ∧ c0 ≤ 100 := by
            have := hbd2
            simp only [decide_eq_false_iff_not, not_or] at this
            omega
          obtain ⟨cn, hcn⟩ : ∃ cn : Nat, c0 = (cn : Int) := ⟨c0.toNat, by omega⟩
          subst hcn
          clear hg1 hg0 hbd2
          have HVq := Lib.hid hVe
          clear hVe
          go_wp2_with (at_builtin; refine wpList_appN (.tmp 63) (.tmp 65) 34 w.heap.size 36 _ 2 16 _ k (ijCells (l.take k)) (W3.heap.size + 1) (some ⟨W3.heap.size, 0, none⟩) 1 1 _ Try.underlying34 rnInfo rfl (by decide) rfl rfl rfl rfl (own_box HO3.out _) (Rd.lit rfl (Nat.lt_succ_self _)) (two_one _ _) (by omega) (by omega) (by simp; omega) ?_; intro v1 w1 hown1 hg1 hn1 hb1)
          rw [← HSN.out] at hown1
          have hB4 := (HB3.out.alloc' (.cells #[.int .i64 (cn : Int), .int .i64 r0] 36)).row hg1 hn5
          have hV4 := own_off (own_box HV3.out (.cells #[.int .i64 (cn : Int), .int .i64 r0] 36)) hg1 HAP.out.symm
          have hA4 := HAP.out.next (own_box HV3.out (.cells #[.int .i64 (cn : Int), .int .i64 r0] 36)) hn1
          have hbw4 := below_row (hbw3.alloc hbw3.size (.cells #[.int .i64 (cn : Int), .int .i64 r0] 36)) (own_box HO3.out _) hg1 (Nat.le_refl _) (by simp; omega)
          have hs4 : gb < w1.heap.size := hB4.2.2
          have HO4 := Lib.hid hown1
          have HV4 := Lib.hid hV4
          have HB4 := Lib.hid hB4
          have HA4 := Lib.hid hA4
          clear hown1 hg1 hn1 hb1 hB4 hV4 hA4 hbw3 HB3 HV3 HO3 HAP qq zz ll
          go_loopw [6, 10] (fun vv kk wq => ∃ j : Nat, j ≤ cn ∧ kk = .int .i64 j ∧ wq.ownsRow w.heap.size 3 1 vv (V.length + j) (i64s (V ++ List.replicate j r0)) ∧ wq.ownsRow w.heap.size 36 2 v1 (k + 1) (ijCells (l.take (k + 1))) ∧ Box wq gb #[.int .i64 cn, .int .i64 r0] ∧ Apart v1 vv ∧ some gb ≠ vv.ownBlock ∧ Below w.heap.size w wq) (fun _ kk _ => cn - (intOf kk).toNat)
          case atStart => exact ⟨0, by omega, rfl, by simpa using HV4.out, HO4.out, HB4.out, HA4.out, hn6, hbw4⟩
          case round =>
            obtain ⟨j, hj, rfl, hv5, ho5, hB5, hA5, hn6', hbw5⟩ := hrel
            clear HV4 HO4 HB4 HA4 hn6 hbw4
            obtain ⟨qq, zz, ll⟩ := hB5
            have y0 : wr.cell? ⟨gb, 0, none⟩ = some (.int .i64 cn) := qq 0
            have y1 : wr.cell? ⟨gb, 1, none⟩ = some (.int .i64 r0) := qq 1
            have HV5 := Lib.hid hv5
            have HO5 := Lib.hid ho5
            have HA5 := Lib.hid hA5
            have HN6 := Lib.hid hn6'
            have HB5 := Lib.hid (show Box wr gb #[.int .i64 cn, .int .i64 r0] from ⟨qq, zz, ll⟩)
            clear hv5 ho5 hA5 hn6' qq zz ll
            by_cases hjl : j < cn
            · go_wp2_with (at_builtin; refine wpList_appN (.tmp 76) (.tmp 79) 33 w.heap.size 3 _ 1 8 _ (V.length + j) (i64s (V ++ List.replicate j r0)) (wr.heap.size + 1) (some ⟨wr.heap.size, 0, none⟩) 1 1 _ Try.underlying33 intInfo rfl (by decide) rfl rfl rfl rfl (own_box HV5.out _) (Rd.lit rfl (Nat.lt_succ_self _)) (one1 _) (by omega) (by omega) (by have := hbw5.size; simp; omega) ?_; intro v2 w2 hown2 hg2 hn2 hb2)
              have hB6 := (HB5.out.alloc' (.cells #[.int .i64 r0] 3)).row hg2 HN6.out
              have hO6 := own_off (own_box HO5.out (.cells #[.int .i64 r0] 3)) hg2 HA5.out
              have hA6 := (HA5.out.symm.next (own_box HO5.out (.cells #[.int .i64 r0] 3)) hn2).symm
              have hbw6 := below_row (hbw5.alloc hbw5.size (.cells #[.int .i64 r0] 3)) (own_box HV5.out _) hg2 (Nat.le_refl _) (by have := hbw5.size; simp; omega)
              have hn7 : some gb ≠ v2.ownBlock := by
                intro hh
                rcases hn2 with h | ⟨g, h, h2⟩
                · rw [h] at hh; exact HN6.out hh
                · rw [h] at hh; injection hh with hh; subst hh
                  have := HB5.out.2.2
                  simp at h2; omega
              have hv6 : w2.ownsRow w.heap.size 3 1 v2 (V.length + (j + 1)) (i64s (V ++ List.replicate (j + 1) r0)) := by
                rw [List.replicate_succ', ← List.append_assoc, i64s_snoc]
                exact hown2
              exact ⟨⟨j + 1, by omega, by go_num, hv6, hO6, hB6, hA6, hn7, hbw6⟩, by simp [intOf]; omega⟩
            · obtain rfl : j = cn := by omega
              have hfin : expand (toRn (l.take (k + 1))) = V ++ List.replicate j r0 := by rw [HEX.out, ← HVq.out]; simp
              have HF := Lib.hid hfin
              have HV7 : Hid (wr.ownsRow w.heap.size 3 1 u6 (V ++ List.replicate j r0).length (i64s (V ++ List.replicate j r0))) := by
                have := HV5.out
                rw [List.length_append, List.length_replicate]
                exact this
              clear hfin
              go_wp2_with fail
              go_roundw
              case rel =>
                exact ⟨k + 1, V ++ List.replicate j r0, by omega, by go_num, by rw [HG1.out], HO5.out, HV7.out, by simp; omega, fun _ => HF.out.symm, HA5.out, hbw5⟩
              case measure => simp [intOf]; omega
    · obtain rfl : k = m := by omega
      rw [List.take_of_length_le (by rw [HLM.out]; omega)] at HVE ⊢
      have hown : wr.ownsRow w.heap.size 36 2 u5 k (ijCells l) := by
        have := HO.out
        rwa [List.take_of_length_le (by rw [HLM.out]; omega)] at this
      obtain ⟨A5, c5, hu5, _, hR5⟩ := own_form hown
      obtain ⟨A6, c6, hu6, _, hR6⟩ := own_form HV.out
      subst hu5 hu6
      have HR5 := Lib.hid hR5
      have HR6 := Lib.hid hR6
      have HVq := Lib.hid HVE.out
      obtain ⟨g0, hg0⟩ : ∃ g0, gdA none l = g0 := ⟨_, rfl⟩
      rw [hg0] at HVq ⊢
      have HG0 := Lib.hid hg0
      obtain ⟨vn, hvn⟩ : ∃ vn, V.length = vn := ⟨_, rfl⟩
      rw [hvn] at HR6 hV ⊢
      have HVN := Lib.hid hvn
      clear hown hR5 hR6 HO HV HVE HAP HR HR2 HG hg0 hvn
      have htest : (k < n ∧ n2 ≤ k) ∨ n ≤ k ∨ (k < n ∧ k < n2 ∧ 12 ≤ k) := by omega
      have HAW := Lib.hid awake_any
      have hk64 : k ≤ 12 := by omega
      rcases htest with ⟨t1, t2⟩ | t1 | ⟨t1, t2, t3⟩
      all_goals
        go_wp2_with fail
        obtain ⟨wo, hwo⟩ : ∃ wo : World, wo = wr := ⟨_, rfl⟩
        subst hwo
        go_loopw [11] (fun i wq => ∃ j : Nat, j ≤ k ∧ i = .int .i64 j ∧ wq = wo ∧ ∀ x ∈ l.take j, x.1 ≤ 100) (fun i _ => k - (intOf i).toNat)
        case atStart => exact ⟨0, by omega, rfl, rfl, by simp⟩
        case round =>
          obtain ⟨j, hj, rfl, rfl, hall⟩ := hrel
          have HALL := Lib.hid hall
          clear hall
          by_cases hjl : j < k
          · obtain ⟨b', o', hA, _, hk1, x0, x1⟩ := ij_cells HR5.out j hjl
            subst hA
            obtain ⟨x, hx⟩ : ∃ x, l[j].1 = x := ⟨_, rfl⟩
            rw [hx] at x0
            by_cases hx1 : 100 < x
            · have hd : decide (100 < x) = true := by simpa using hx1
              clear hx x1
              go_wp2_with fail
              refine (HAW.out _).mono ?_
              rintro e w5 ⟨rfl, hb5⟩
              go_wp2
              go_ret
              exact ⟨rfl, ext_trans hbw hb5⟩
            · have hd : decide (100 < x) = false := by simpa using hx1
              have hnx : ∀ y ∈ l.take (j + 1), y.1 ≤ 100 := by
                intro y hy
                rw [List.take_succ_eq_append_getElem hk1] at hy
                rcases List.mem_append.1 hy with h | h
                · exact HALL.out y h
                · simp only [List.mem_singleton] at h; subst h; omega
              have HNX := Lib.hid hnx
              clear hx x1 hnx
              go_wp2
              exact ⟨⟨j + 1, by omega, by go_num, by trivial, HNX.out⟩, by simp [intOf]; omega⟩
          · obtain rfl : j = k := by omega
            have hall : ∀ x ∈ l, x.1 ≤ 100 := by
              have := HALL.out
              rwa [List.take_of_length_le (by rw [HLM.out]; omega)] at this
            have hok : jOk 65536 none l = g0 := by rw [jOk_gdA l _ none (by rw [HLM.out]; omega) hall, HG0.out]
            have HJ := Lib.hid (join_any l A5 j c5 _ wr HR5.out (by omega) HCI.out g0 hok)
            have HOK := Lib.hid hok
            clear hall hok
            go_wp2_with fail
            refine HJ.out.mono ?_
            rintro e w5 ⟨hb5, A7, c7, m7, rfl, hif⟩
            have HR6' := Lib.hid ((HR6.out.below hb5 (Nat.le_refl _)).more hb5.size)
            have hbw5 := ext_trans hbw hb5
            cases g0
            · rw [if_neg (by simp)] at hif
              obtain ⟨rfl, rfl, rfl⟩ := hif
              have HB6 := Lib.hid (Box.alloc_ (w := w5) (cs := #[.slice none 0 0]) (e := 38))
              have hbw6 := ext_alloc hbw5 (.cells #[.slice none 0 0] 38)
              clear hb5 HJ
              go_wp2_with fail
              refine (HAW.out _).mono ?_
              rintro e w6 ⟨rfl, hb6⟩
              obtain ⟨qq, zz, ll⟩ := HB6.out.below hb6
              have q0 : w6.cell? ⟨w5.heap.size, 0, none⟩ = some (.slice none 0 0) := qq 0
              have hbw7 := ext_trans hbw6 hb6
              clear hb6 qq
              go_wp2_with fail
              refine (len_any [] none 0 0 0 w6 Rd.nil_ (by omega) 0 rfl (by omega)).mono ?_
              rintro e w7 ⟨rfl, hb7⟩
              go_wp2
              go_ret
              exact ⟨rfl, ext_trans hbw7 hb7⟩
            · rw [if_pos rfl] at hif
              obtain ⟨rfl, hR7⟩ := hif
              obtain ⟨s1, s2, s3⟩ := jOk_spec l 65536 none (by omega) HOK.out
              have HMX := Lib.hid s2
              have HVV := Lib.hid (HVq.out rfl).symm
              have HR7 := Lib.hid (hR7.alloc' (.cells #[.slice A7 m7 c7] 38) (Nat.le_refl _))
              have HB6 := Lib.hid (Box.alloc_ (w := w5) (cs := #[.slice A7 m7 c7]) (e := 38))
              have HR8 := Lib.hid (HR6'.out.alloc' (.cells #[.slice A7 m7 c7] 38) (Nat.le_refl _))
              have hbw6 := ext_alloc hbw5 (.cells #[.slice A7 m7 c7] 38)
              clear s1 s2 s3 hb5 HJ hR7 HR6'
              go_wp2_with fail
              refine (HAW.out _).mono ?_
              rintro e w6 ⟨rfl, hb6⟩
              obtain ⟨qq, zz, ll⟩ := HB6.out.below hb6
              have q0 : w6.cell? ⟨w5.heap.size, 0, none⟩ = some (.slice A7 m7 c7) := qq 0
              have hbw7 := ext_trans hbw6 hb6
              have HI := Lib.hid (is_any (toRn l) V A7 A6 m7 c7 _ vn c6 _ w6 (HR7.out.below hb6 (by simp)) (HR8.out.below hb6 (by simp)) HMX.out HVV.out (by omega) (by omega))
              clear hb6 qq
              go_wp2_with fail
              refine HI.out.mono ?_
              rintro e w7 ⟨rfl, hb7⟩
              go_wp2
              go_ret
              exact ⟨rfl, ext_trans hbw7 hb7⟩
theorem lawJoinI (cs xs : List Int) (A A2 : Option Addr) (c c2 : Nat) (w : World) (hr : Rd w w.heap.size 1 A cs.length (cs.map fun x => [Value.int .i64 x]).flatten) (hlc : cs.length ≤ c) (hc : c ≤ maxLen) (hr2 : Rd w w.heap.size 1 A2 xs.length (xs.map fun x => [Value.int .i64 x]).flatten) (hlc2 : xs.length ≤ c2) (hc2 : c2 ≤ maxLen) (hi : ∀ x ∈ cs, (Lit.int .i64 x).wf = true) :
    Calls Try.prog 4 #[.slice A cs.length c, .slice A2 xs.length c2] w fun e w' => e = .returned (.bool true) ∧ Below w.heap.size w w' :=
  lawJoin_any cs xs A A2 _ _ c c2 w (by rwa [flatten_one] at hr) (by rwa [flatten_one] at hr2) (by omega) (by omega) (fun x hx => wf_i64' (hi x hx))
end Go.Proofs.Ytjbbkhoonenfjaa

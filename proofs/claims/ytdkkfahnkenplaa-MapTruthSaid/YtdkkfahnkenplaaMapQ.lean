/- Layer 25: contract of the statements' kinds. -/
import Derived.Test.YtdkkfahnkenplaaMapA
import Derived.Deep.DeepCutAuto
set_option linter.unusedVariables false
set_option linter.unusedSimpArgs false
namespace Go.Proofs.Ytdkkfahnkenplaa
open Go.RowKit

theorem MxA_at {α : Type} : ∀ (rs : List (Rn α)) (p : Option α), MxA p rs → ∀ (k : Nat) (hk : k < rs.length), 1 ≤ rs[k].1 ∧ (∀ (j : Nat) (hj : j + 1 = k), rs[j].2 ≠ rs[k].2) ∧ (k = 0 → some rs[k].2 ≠ p)
  | [], _, _, k, hk => by simp at hk
  | r :: t, p, h, 0, _ => ⟨h.1, fun j hj => by omega, fun _ => h.2.1⟩
  | r :: t, p, h, k + 1, hk => by
    obtain ⟨h1, h2, h3⟩ := h
    have ih := MxA_at t (some r.2) h3 k (by simpa using hk)
    refine ⟨by simpa using ih.1, fun j hj => ?_, fun h => by omega⟩
    obtain rfl : j = k := by omega
    cases j with
    | zero => have := ih.2.2 rfl; intro e; exact this (by simpa using e.symm)
    | succ j => have := ih.2.1 j rfl; simpa using this
theorem expand_snoc {α : Type} (rs : List (Rn α)) (k : Nat) (hk : k < rs.length) : expand (rs.take (k + 1)) = expand (rs.take k) ++ List.replicate rs[k].1 rs[k].2 := by
  rw [List.take_succ_eq_append_getElem hk, expand_append]
  simp [expand]
theorem intInfo : (Try.prog.info? 3).map (fun i => (i.zero, i.size, i.bytes)) = some (some (.int .i64 0), 1, 8) := by kernel_rfl
abbrev ints (l : List Int) : List Value := l.map (Value.int .i64)
theorem one1 (a : Int) : ∀ u ∈ [Value.int .i64 a], u.oneCell' = true := by simp [Value.oneCell']

set_option maxRecDepth 100000 in
set_option maxHeartbeats 4000000 in
theorem kinds_any (S : Mst) (g : Nat) (w : World) (hS : MapAt w g S) (hk : Mok S) (hl : S.ks.length = S.N) (N : Nat) (hN : S.N = N) :
    Calls Try.prog 23 #[mptr g, .int .i64 N] w fun e w' => ∃ A c, e = .returned (.tuple #[.slice A N c, .bool true]) ∧ Rd w' w'.heap.size 1 A N (ints S.ks) ∧ Below w.heap.size w w' := by
  obtain ⟨rs, hrs⟩ : ∃ rs, ofL S.ks = rs := ⟨_, rfl⟩
  obtain ⟨m, hm⟩ : ∃ m, rs.length = m := ⟨_, rfl⟩
  have HSP := Lib.hid (spans_any S g w hS hk hl rs hrs m hm)
  obtain ⟨hmx, hex⟩ := ofL_spec S.ks
  have hlen := ofL_length S.ks
  rw [hrs] at hmx hex hlen
  have htot : tot rs = N := by rw [← expand_length, hex, hl, hN]
  have hN5 : N ≤ 512 := by rw [← hN]; exact hk.2.1
  have hm5 : m ≤ 512 := by omega
  have HMX := Lib.hid hmx
  have HEX := Lib.hid hex
  have HT := Lib.hid htot
  have HM := Lib.hid hm
  clear hmx hex htot hm hS hk hl hN hrs hlen
  go_enter Try.func23, Try.ntmps23
  go_wp2_with fail
  refine HSP.out.mono ?_
  rintro e w2 ⟨A2, c2, rfl, hown2, hb2⟩
  have HR2 := Lib.hid (Rd.of_own hown2)
  clear hown2 HSP
  go_wp2_with fail
  go_loopw [8, 9, 10] (fun v i p wr => ∃ k : Nat, k ≤ m ∧ i = .int .i64 k ∧ wr.ownsRow w2.heap.size 3 1 v (tot (rs.take k)) (ints (expand (rs.take k))) ∧ Below w2.heap.size w2 wr) (fun _ i _ _ => m - (intOf i).toNat)
  case atStart => exact ⟨0, by omega, rfl, World.ownsRow_nil _ _ _ _, Below.refl _ _⟩
  case round =>
    obtain ⟨k, hk, rfl, hown, hbr⟩ := hrel
    have HO := Lib.hid hown
    clear hown
    by_cases hlt : k < m
    · obtain ⟨b, off, rfl, hbl, hk', c0, c1⟩ := rn_cells HR2.out k hlt
      obtain ⟨hp1, hp2, _⟩ := MxA_at rs none HMX.out k hk'
      have hsn := expand_snoc rs k hk'
      have hts := tot_snoc rs k hk'
      have htk := tot_take rs (k + 1)
      rw [HT.out] at htk
      obtain ⟨r1, hr1⟩ : ∃ r1, rs[k].1 = r1 := ⟨_, rfl⟩
      obtain ⟨r2, hr2⟩ : ∃ r2, rs[k].2 = r2 := ⟨_, rfl⟩
      obtain ⟨t, ht⟩ : ∃ t, tot (rs.take k) = t := ⟨_, rfl⟩
      have hel := expand_length (rs.take k)
      rw [hr1] at c0 hsn hts hp1
      rw [hr2] at c1 hsn hp2
      rw [ht] at hts hel HO
      have htr : t + r1 ≤ N := by omega
      have HSN := Lib.hid hsn
      have HTS := Lib.hid hts
      clear hsn hts hr1 htk ht hel
      have z0 : wr.cell? ⟨b, off + k * 2, none⟩ = some (.int .i64 r1) := (hbr.cell (p := ⟨b, off + k * 2, none⟩) hbl).trans c0
      have z1 : wr.cell? ⟨b, off + k * 2 + 1, none⟩ = some (.int .i64 r2) := (hbr.cell (p := ⟨b, off + k * 2 + 1, none⟩) hbl).trans c1
      obtain ⟨A5, c5, hv5, _, _⟩ := own_form HO.out
      subst hv5
      have d1 : decide ((r1 : Int) < 1) = false := by simp; omega
      have f1 : IntKind.i64.wrap ((N : Int) - (t : Int)) = ((N - t : Nat) : Int) := by rw [IntWalk.i64_in _ ⟨by omega, by omega⟩]; omega
      have d2 : decide (((N - t : Nat) : Int) < (r1 : Int)) = false := by simp; omega
      have d2' : decide (N - t < r1) = false := by simp; omega
      go_upto_region 6 with fail
      go_cut [60] (fun v x => v = .bool false ∧ ∃ z, x = wr.drewN z)
      case first =>
        by_cases hk0 : k = 0
        · subst hk0
          simp only [Nat.zero_mul, Nat.add_zero, Nat.zero_add] at z0 z1
          go_quiet (fail)
          go_wp2_with fail
          go_meet
          case rel => exact ⟨rfl, _, rfl⟩
        · obtain ⟨b', o', hA', _, hk1, x0, x1⟩ := rn_cells HR2.out (k - 1) (by omega)
          injection hA' with hA'
          injection hA' with e1 e2
          subst e1 e2
          have hne := hp2 (k - 1) (by omega)
          obtain ⟨r3, hr3⟩ : ∃ r3, rs[k - 1].2 = r3 := ⟨_, rfl⟩
          rw [hr3] at x1 hne
          have z2 : wr.cell? ⟨b, off + (k - 1) * 2 + 1, none⟩ = some (.int .i64 r3) := (hbr.cell (p := ⟨b, off + (k - 1) * 2 + 1, none⟩) hbl).trans x1
          have d3 : (r3 == r2) = false := by simpa using hne
          have hk00 : decide (0 < k) = true := by simp; omega
          have hk01 : decide ((0 : Int) < (k : Int)) = true := by simp; omega
          have f3 : IntKind.i64.wrap ((k : Int) - 1) = ((k - 1 : Nat) : Int) := by rw [IntWalk.i64_in _ ⟨by omega, by omega⟩]; omega
          have hkm : k - 1 < m := by omega
          clear hr3 hne x0 x1 hp2
          go_quiet (fail)
          go_wp2_with fail
          go_meet
          case rel => exact ⟨rfl, _, rfl⟩
      case rest =>
        obtain ⟨rfl, z, rfl⟩ := hcut
        have HO3 := Lib.hid (own_below HO.out (below_drewN (Below.refl _ _) z) (Nat.le_refl _))
        have hbr3 := below_drewN hbr z
        clear HO hbr z0 z1
        revert HO3 hbr3
        generalize wr.drewN z = W3
        intro HO3 hbr3
        clear hp2 hr2 d1 f1 d2 d2'
        go_wp2_with fail
        go_loopw [8, 10] (fun v p wq => ∃ q : Nat, q ≤ r1 ∧ p = .int .i64 q ∧ wq.ownsRow w2.heap.size 3 1 v (t + q) (ints (expand (rs.take k) ++ List.replicate q r2)) ∧ Below w2.heap.size w2 wq) (fun _ p _ => r1 - (intOf p).toNat)
        case atStart => exact ⟨0, by omega, rfl, by simpa using HO3.out, hbr3⟩
        case round =>
          obtain ⟨q, hq, rfl, hown, hbq⟩ := hrel
          have HO := Lib.hid hown
          clear hown
          have z0 : wr.cell? ⟨b, off + k * 2, none⟩ = some (.int .i64 r1) := (hbq.cell (p := ⟨b, off + k * 2, none⟩) hbl).trans c0
          have z1 : wr.cell? ⟨b, off + k * 2 + 1, none⟩ = some (.int .i64 r2) := (hbq.cell (p := ⟨b, off + k * 2 + 1, none⟩) hbl).trans c1
          by_cases hlq : q < r1
          · have hcl : ∀ (v1 : Value) (w1 : World), w1.ownsRow w2.heap.size 3 1 v1 (t + q + 1) (ints (expand (rs.take k) ++ List.replicate q r2) ++ [.int .i64 r2]) → w1.ownsRow w2.heap.size 3 1 v1 (t + (q + 1)) (ints (expand (rs.take k) ++ List.replicate (q + 1) r2)) := by
              intro v1 w1 h
              rw [List.replicate_succ', ← List.append_assoc]
              simpa [Nat.add_assoc] using h
            have HCL := Lib.hid hcl
            have hsz := hbq.size
            clear hcl
            go_wp2_with (at_builtin; refine wpList_appN (.tmp 70) (.tmp 76) 24 w2.heap.size 3 _ 1 8 _ (t + q) (ints (expand (rs.take k) ++ List.replicate q r2)) (wr.heap.size + 1) (some ⟨wr.heap.size, 0, none⟩) 1 1 _ Try.underlying24 intInfo rfl (by decide) rfl rfl rfl rfl (own_box HO.out _) (Rd.lit rfl (Nat.lt_succ_self _)) (one1 _) (by omega) (by omega) (by simp; omega) ?_; intro v1 w1 hown1 hg1 hn1 hb1)
            go_roundw
            case rel => exact ⟨q + 1, by omega, by go_num, HCL.out _ _ hown1, (hbq.alloc hsz _).trans hb1⟩
            case measure => simp [intOf]; omega
          · obtain rfl : q = r1 := by omega
            go_wp2_with fail
            go_roundw
            case rel => exact ⟨k + 1, by omega, by go_num, by rw [HSN.out, HTS.out]; exact HO.out, hbq⟩
            case measure => simp [intOf]; omega
    · obtain rfl : k = m := by omega
      have hown := HO.out
      rw [List.take_of_length_le (by rw [HM.out]; exact Nat.le_refl _), HT.out, HEX.out] at hown
      obtain ⟨A5, c5, hv5, _, hR5⟩ := own_form hown
      subst hv5
      have HR5 := Lib.hid hR5
      clear hown hR5 HO
      go_wp2
      go_ret2
      exact ⟨A5, c5, rfl, HR5.out, ext_trans hb2 hbr⟩
end Go.Proofs.Ytdkkfahnkenplaa

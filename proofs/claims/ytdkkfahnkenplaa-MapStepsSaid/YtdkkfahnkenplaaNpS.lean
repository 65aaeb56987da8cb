/- Layer 25: contract of Spans. -/
import Derived.Test.YtdkkfahnkenplaaNpX
set_option linter.unusedVariables false
set_option linter.unusedSimpArgs false
namespace Go.Proofs.Ytdkkfahnkenplaa
open Go.RowKit
variable {F : Nat → Prop}

theorem spanInfo : (Try.prog.info? 71).map (fun i => (i.zero, i.size, i.bytes)) = some (some (.agg #[.int .i64 0, .int .i64 0]), 2, 16) := by kernel_rfl
theorem rnCells_snoc (rs : List (Rn Int)) (k : Nat) (hk : k < rs.length) : rnCells (rs.take (k + 1)) = rnCells (rs.take k) ++ [.int .i64 rs[k].1, .int .i64 rs[k].2] := by
  rw [List.take_succ_eq_append_getElem hk, rnCells_append]
  simp [rnCells, rnRow]
theorem spans_nil (w : World) : Calls Try.prog 13 #[.pointer none] w fun e w' => e = .returned (.tuple #[.slice none 0 0, .bool false]) ∧ w = w' := by
  go_enter Try.func13, Try.ntmps13
  go_wp2
  go_ret2
  exact ⟨rfl, rfl⟩
theorem spans_no (S : Mst) (g : Nat) (w : World) (hS : MapAt F w g S) (hk : Mok S) (hl : S.ks.length < S.N) : Calls Try.prog 13 #[mptr g] w fun e w' => e = .returned (.tuple #[.slice none 0 0, .bool false]) ∧ Below w.heap.size w w' := by
  have HE := Lib.hid (ended_any S g _ hS hk false (by simp; omega))
  go_enter Try.func13, Try.ntmps13
  go_wp2_with fail
  refine HE.out.mono ?_
  rintro e w1 ⟨rfl, hb1⟩
  go_wp2
  go_ret2
  exact ⟨rfl, hb1⟩
set_option maxHeartbeats 2000000 in
theorem spans_any (S : Mst) (g : Nat) (w : World) (hS : MapAt F w g S) (hk : Mok S) (hl : S.ks.length = S.N) (rs : List (Rn Int)) (hrs : ofL S.ks = rs) (n : Nat) (hn : rs.length = n) :
    Calls Try.prog 13 #[mptr g] w fun e w' => ∃ A c, e = .returned (.tuple #[.slice A n c, .bool true]) ∧ w'.ownsRow w.heap.size 71 2 (.slice A n c) n (rnCells rs) ∧ Below w.heap.size w w' := by
  have HE := Lib.hid (ended_any S g _ hS hk true (by simpa using hl))
  have hS0 := hS
  obtain ⟨A, m, c, hB, hR, hne⟩ := hS0
  rw [hrs] at hR
  obtain rfl : m = n := by rw [← hn]; exact hR.rlen.symm
  have hln := ofL_length S.ks
  rw [hrs, hn] at hln
  obtain ⟨k1, k2, k3, k4, k5, k6⟩ := hk
  have HRU := Lib.hid (fun (W : World) (h : Below w.heap.size w W) => runs_any A m c _ rs W (hR.below h (Nat.le_refl _)) (by omega))
  have HB := Lib.hid hB
  have hm : m ≤ 512 := by omega
  have HN := Lib.hid hn
  clear hS hR hne hrs hB hln k1 k2 k3 k4 k5 k6 hl hn
  go_enter Try.func13, Try.ntmps13
  go_wp2_with fail
  refine HE.out.mono ?_
  rintro e w1 ⟨rfl, hb1⟩
  obtain ⟨q, z, l⟩ := HB.out.below hb1
  have y7 : w1.cell? ⟨g, 7, none⟩ = some (.slice A m c) := q 7
  clear q
  go_wp2_with fail
  refine (HRU.out _ hb1).mono ?_
  rintro e w2 ⟨v2, rfl, hown2, hb2⟩
  obtain ⟨A2, c2, hv2, _, hR2⟩ := own_form hown2
  subst hv2
  have hbw := ext_trans hb1 hb2
  have HR2 := Lib.hid hR2
  clear hown2 hR2 hb2 z l y7
  go_wp2_with fail
  go_loopw [4, 6, 20] (fun v p i wr => ∃ k : Nat, k ≤ m ∧ i = .int .i64 k ∧ wr.ownsRow w2.heap.size 71 2 v k (rnCells (rs.take k)) ∧ Below w2.heap.size w2 wr) (fun _ _ i _ => m - (intOf i).toNat)
  case atStart => exact ⟨0, by omega, rfl, World.ownsRow_nil _ _ _ _, Below.refl _ _⟩
  case round =>
    obtain ⟨k, hk, rfl, hown, hbr⟩ := hrel
    have HO := Lib.hid hown
    clear hown
    by_cases hlt : k < m
    · obtain ⟨b, off, rfl, hbl, hk', c0, c1⟩ := rn_cells (HR2.out.below hbr (Nat.le_refl _)) k hlt
      have hsn := rnCells_snoc rs k hk'
      obtain ⟨r1, hr1⟩ : ∃ r1, rs[k].1 = r1 := ⟨_, rfl⟩
      obtain ⟨r2, hr2⟩ : ∃ r2, rs[k].2 = r2 := ⟨_, rfl⟩
      rw [hr1] at c0 hsn
      rw [hr2] at c1 hsn
      have HSN := Lib.hid hsn
      clear hsn hr1 hr2
      have hsz := hbr.size
      go_wp2_with (at_builtin; refine wpList_appR (.tmp 24) (.tmp 30) 34 w2.heap.size 71 _ 2 16 _ k (rnCells (rs.take k)) (wr.heap.size + 2) (some ⟨wr.heap.size + 1, 0, none⟩) 1 1 _ Try.underlying34 spanInfo rfl (by decide) rfl rfl rfl rfl ((HO.out.alloc _).alloc _) (Rd.lit2 rfl (by omega)) (two_one _ _) (by omega) (by omega) (by simp; omega) ?_; intro v1 w3 hown3 hg3 hb3)
      exact ⟨⟨k + 1, by omega, by go_num, by rw [HSN.out]; exact hown3, ((hbr.alloc hbr.size _).alloc (by simp; omega) _).trans hb3⟩, by simp [intOf]; omega⟩
    · obtain rfl : k = m := by omega
      have hown := HO.out
      rw [List.take_of_length_le (by rw [HN.out]; omega)] at hown
      obtain ⟨A5, c5, hv5, _, _⟩ := own_form hown
      subst hv5
      have HO5 := Lib.hid hown
      clear hown
      go_wp2
      go_ret2
      exact ⟨A5, c5, rfl, own_mono HO5.out hbw.size, ext_trans hbw hbr⟩
end Go.Proofs.Ytdkkfahnkenplaa

/- Layer 30: Sample, the chapter's example (printed by curl.py). -/
import Derived.Test.YtldpidononmfeaaCur
import Derived.Test.YtldpidononmfeaaOpenS
import Derived.Test.YtldpidononmfeaaLib4
set_option linter.unusedVariables false
set_option linter.unusedSimpArgs false
namespace Go.Proofs.Ytldpidononmfeaa
open Go.RowKit

abbrev sampleX : Cf := ⟨[(9600, 1)], 1, 2, 1, 1000, 0, 0, 0, 0, 0, 100, 8, 0, 0, 1, 10000⟩
abbrev sample2 : Cf := ⟨[(1200, 0), (9600, 1)], 5, 7, 1, 1000, 0, 0, 0, 0, 0, 100, 8, 0, 0, 1, 10000⟩
theorem st_one (l : List St) : ∀ u ∈ stCells l, u.oneCell' = true := by
  intro u hu
  obtain ⟨r, hr, hu⟩ := List.mem_flatten.1 hu
  obtain ⟨x, _, rfl⟩ := List.mem_map.1 hr
  simp [stRow] at hu
  rcases hu with rfl | rfl <;> rfl
set_option maxHeartbeats 1000000 in
theorem sample_any (w : World) : Calls Try.prog 12 #[] w fun e w' => ∃ A c, e = .returned (cfV A 1 c sampleX) ∧ Rd w' w'.heap.size 2 A 1 (stCells [(9600, 1)]) ∧ Below w.heap.size w w' := by
  go_enter Try.func12, Try.ntmps12
  go_wp2
  have HB : Box (((w.alloc (.cells #[.slice (some ⟨w.heap.size + 1, 0, none⟩) 1 1, .int .i64 1, .int .i64 2, .int .i64 1, .int .i64 1000, .int .i64 0, .int .i64 0, .int .i64 0, .int .i64 0, .int .i64 0, .int .i64 100, .int .i64 8, .int .i64 0, .int .i64 0, .int .i64 1, .int .i64 10000] 27)).alloc (.cells #[.int .i64 9600, .int .i64 1] 41)).alloc (.cells #[.slice (some ⟨w.heap.size + 1, 0, none⟩) 1 1, .int .i64 1, .int .i64 2, .int .i64 1, .int .i64 1000, .int .i64 0, .int .i64 0, .int .i64 0, .int .i64 0, .int .i64 0, .int .i64 100, .int .i64 8, .int .i64 0, .int .i64 0, .int .i64 1, .int .i64 10000] 27)) w.heap.size #[.slice (some ⟨w.heap.size + 1, 0, none⟩) 1 1, .int .i64 1, .int .i64 2, .int .i64 1, .int .i64 1000, .int .i64 0, .int .i64 0, .int .i64 0, .int .i64 0, .int .i64 0, .int .i64 100, .int .i64 8, .int .i64 0, .int .i64 0, .int .i64 1, .int .i64 10000] := (Box.alloc_.alloc' _).alloc' _
  have hR : Rd (((w.alloc (.cells #[.slice (some ⟨w.heap.size + 1, 0, none⟩) 1 1, .int .i64 1, .int .i64 2, .int .i64 1, .int .i64 1000, .int .i64 0, .int .i64 0, .int .i64 0, .int .i64 0, .int .i64 0, .int .i64 100, .int .i64 8, .int .i64 0, .int .i64 0, .int .i64 1, .int .i64 10000] 27)).alloc (.cells #[.int .i64 9600, .int .i64 1] 41)).alloc (.cells #[.slice (some ⟨w.heap.size + 1, 0, none⟩) 1 1, .int .i64 1, .int .i64 2, .int .i64 1, .int .i64 1000, .int .i64 0, .int .i64 0, .int .i64 0, .int .i64 0, .int .i64 0, .int .i64 100, .int .i64 8, .int .i64 0, .int .i64 0, .int .i64 1, .int .i64 10000] 27)) (w.heap.size + 2) 2 (some ⟨w.heap.size + 1, 0, none⟩) 1 (stCells [(9600, 1)]) := by
    have h := (Rd.lit (w := w.alloc (.cells #[.slice (some ⟨w.heap.size + 1, 0, none⟩) 1 1, .int .i64 1, .int .i64 2, .int .i64 1, .int .i64 1000, .int .i64 0, .int .i64 0, .int .i64 0, .int .i64 0, .int .i64 0, .int .i64 100, .int .i64 8, .int .i64 0, .int .i64 0, .int .i64 1, .int .i64 10000] 27)) (size := 2) (n := 1) (cs := #[.int .i64 9600, .int .i64 1]) (e := 41) (fz := (0, 0)) (B := w.heap.size + 2) rfl (by simp)).alloc' (.cells #[.slice (some ⟨w.heap.size + 1, 0, none⟩) 1 1, .int .i64 1, .int .i64 2, .int .i64 1, .int .i64 1000, .int .i64 0, .int .i64 0, .int .i64 0, .int .i64 0, .int .i64 0, .int .i64 100, .int .i64 8, .int .i64 0, .int .i64 0, .int .i64 1, .int .i64 10000] 27) (by simp)
    have e1 : (w.alloc (.cells #[.slice (some ⟨w.heap.size + 1, 0, none⟩) 1 1, .int .i64 1, .int .i64 2, .int .i64 1, .int .i64 1000, .int .i64 0, .int .i64 0, .int .i64 0, .int .i64 0, .int .i64 0, .int .i64 100, .int .i64 8, .int .i64 0, .int .i64 0, .int .i64 1, .int .i64 10000] 27)).heap.size = w.heap.size + 1 := by simp
    rw [e1] at h
    exact h
  have hb : Below w.heap.size w (((w.alloc (.cells #[.slice (some ⟨w.heap.size + 1, 0, none⟩) 1 1, .int .i64 1, .int .i64 2, .int .i64 1, .int .i64 1000, .int .i64 0, .int .i64 0, .int .i64 0, .int .i64 0, .int .i64 0, .int .i64 100, .int .i64 8, .int .i64 0, .int .i64 0, .int .i64 1, .int .i64 10000] 27)).alloc (.cells #[.int .i64 9600, .int .i64 1] 41)).alloc (.cells #[.slice (some ⟨w.heap.size + 1, 0, none⟩) 1 1, .int .i64 1, .int .i64 2, .int .i64 1, .int .i64 1000, .int .i64 0, .int .i64 0, .int .i64 0, .int .i64 0, .int .i64 0, .int .i64 100, .int .i64 8, .int .i64 0, .int .i64 0, .int .i64 1, .int .i64 10000] 27)) := (((Below.refl _ _).alloc (Nat.le_refl _) _).alloc (by simp) _).alloc (by simp; omega) _
  revert HB hR hb
  generalize ((w.alloc (.cells #[.slice (some ⟨w.heap.size + 1, 0, none⟩) 1 1, .int .i64 1, .int .i64 2, .int .i64 1, .int .i64 1000, .int .i64 0, .int .i64 0, .int .i64 0, .int .i64 0, .int .i64 0, .int .i64 100, .int .i64 8, .int .i64 0, .int .i64 0, .int .i64 1, .int .i64 10000] 27)).alloc (.cells #[.int .i64 9600, .int .i64 1] 41)).alloc (.cells #[.slice (some ⟨w.heap.size + 1, 0, none⟩) 1 1, .int .i64 1, .int .i64 2, .int .i64 1, .int .i64 1000, .int .i64 0, .int .i64 0, .int .i64 0, .int .i64 0, .int .i64 0, .int .i64 100, .int .i64 8, .int .i64 0, .int .i64 0, .int .i64 1, .int .i64 10000] 27) = W
  intro HB hR hb
  have hR := hR.fits (by decide)
  obtain ⟨q, z, l⟩ := HB
  refine bodyPost_ret (v := cfV (some ⟨w.heap.size + 1, 0, none⟩) 1 1 sampleX) (by simp [results, Try.results12, go_sem, q, z, l]) rfl ⟨_, _, rfl, hR, hb⟩

set_option maxRecDepth 100000 in
set_option maxHeartbeats 2000000 in
theorem awake_any (w : World) : Calls Try.prog 6 #[] w fun e w' => e = .returned (.bool true) ∧ Below w.heap.size w w' := by
  go_enter Try.func6, Try.ntmps6
  go_wp2_with fail
  refine (sample_any _).mono ?_
  rintro e w1 ⟨A, c, rfl, hR, hb1⟩
  obtain ⟨bA, oA, hA, _, _⟩ := hR.2 (by omega)
  subst hA
  obtain ⟨g, hg⟩ : ∃ g, w1.heap.size = g := ⟨_, rfl⟩
  obtain ⟨W1, hW1⟩ : ∃ W1, w1.alloc (.cells #[.slice (some ⟨bA, oA, none⟩) 1 c, .int .i64 1, .int .i64 2, .int .i64 1, .int .i64 1000, .int .i64 0, .int .i64 0, .int .i64 0, .int .i64 0, .int .i64 0, .int .i64 100, .int .i64 8, .int .i64 0, .int .i64 0, .int .i64 1, .int .i64 10000] 27) = W1 := ⟨_, rfl⟩
  have HB := Lib.hid (show Box W1 g #[.slice (some ⟨bA, oA, none⟩) 1 c, .int .i64 1, .int .i64 2, .int .i64 1, .int .i64 1000, .int .i64 0, .int .i64 0, .int .i64 0, .int .i64 0, .int .i64 0, .int .i64 100, .int .i64 8, .int .i64 0, .int .i64 0, .int .i64 1, .int .i64 10000] from hW1 ▸ hg ▸ Box.alloc_)
  have hRW : Rd W1 g 2 (some ⟨bA, oA, none⟩) 1 (stCells [(9600, 1)]) := hW1 ▸ hg ▸ hR.alloc' _ (Nat.le_refl _)
  have HR := Lib.hid hRW
  have hb : Below w.heap.size w W1 := hW1 ▸ ext_alloc hb1 _
  have hgs : g < W1.heap.size := by rw [← hW1, ← hg]; simp
  have hgw : w.heap.size ≤ g := hg ▸ hb1.size
  clear hR hb1 hRW
  go_upto_region 2 with fail
  try rw [hg]
  try rw [hW1]
  clear hg hW1
  obtain ⟨q, z, l⟩ := HB.out
  have HO := Lib.hid (show (W1.alloc (.cells #[.int .i64 1200, .int .i64 0] 41)).ownsRow W1.heap.size 41 2 (.slice (some ⟨W1.heap.size, 0, none⟩) 1 1) 1 [.int .i64 1200, .int .i64 0] from World.ownsRow_lit _ _ _ (Nat.le_refl _) (by simp [maxLen]) rfl)
  go_wp2_with (at_builtin; refine wpList_appR (.tmp 9) (.tmp 11) 22 W1.heap.size 41 _ 2 16 (.slice (some ⟨W1.heap.size, 0, none⟩) 1 1) 1 [.int .i64 1200, .int .i64 0] g (some ⟨bA, oA, none⟩) 1 c (stCells [(9600, 1)]) Try.underlying22 setInfo rfl (by decide) rfl rfl rfl rfl HO.out (HR.out.alloc' _ (by omega)) (st_one _) (by omega) (by omega) (by simp) ?_; intro v2 w2 hown2 hg2 hb2; obtain ⟨A2, c2, hv2, _, _⟩ := own_form hown2; subst hv2; have hn : some g ≠ (Value.slice (some ⟨W1.heap.size, 0, none⟩) 1 1).ownBlock := (by intro h; simp [Value.ownBlock] at h; omega); have HB2 := Lib.hid ((HB.out.alloc' (.cells #[.int .i64 1200, .int .i64 0] 41)).row hg2 hn); have hbw2 : Below w.heap.size w w2 := (hb.alloc hb.size _).trans (hb2.mono (by omega)); have HO2 := Lib.hid hown2; obtain ⟨q2, z2, l2⟩ := HB2.out; clear q z l hg2 hb2 hown2 hn)
  have hB3 : Box (((w2.setCell ⟨g, 0, none⟩ (.slice A2 2 c2)).setCell ⟨g, 1, none⟩ (.int .i64 5)).setCell ⟨g, 2, none⟩ (.int .i64 7)) g #[.slice A2 2 c2, .int .i64 5, .int .i64 7, .int .i64 1, .int .i64 1000, .int .i64 0, .int .i64 0, .int .i64 0, .int .i64 0, .int .i64 0, .int .i64 100, .int .i64 8, .int .i64 0, .int .i64 0, .int .i64 1, .int .i64 10000] := ((HB2.out.set (k := 0) (v := .slice A2 2 c2) (cs' := #[.slice A2 2 c2, .int .i64 1, .int .i64 2, .int .i64 1, .int .i64 1000, .int .i64 0, .int .i64 0, .int .i64 0, .int .i64 0, .int .i64 0, .int .i64 100, .int .i64 8, .int .i64 0, .int .i64 0, .int .i64 1, .int .i64 10000]) (by simp) rfl).set (k := 1) (v := .int .i64 5) (cs' := #[.slice A2 2 c2, .int .i64 5, .int .i64 2, .int .i64 1, .int .i64 1000, .int .i64 0, .int .i64 0, .int .i64 0, .int .i64 0, .int .i64 0, .int .i64 100, .int .i64 8, .int .i64 0, .int .i64 0, .int .i64 1, .int .i64 10000]) (by simp) rfl).set (k := 2) (v := .int .i64 7) (cs' := #[.slice A2 2 c2, .int .i64 5, .int .i64 7, .int .i64 1, .int .i64 1000, .int .i64 0, .int .i64 0, .int .i64 0, .int .i64 0, .int .i64 0, .int .i64 100, .int .i64 8, .int .i64 0, .int .i64 0, .int .i64 1, .int .i64 10000]) (by simp) rfl
  have hO3 := ownsRow_setCell_below (ownsRow_setCell_below (ownsRow_setCell_below HO2.out (show (⟨g, 0, none⟩ : Addr).block < _ from hgs) (.slice A2 2 c2)) (show (⟨g, 1, none⟩ : Addr).block < _ from hgs) (.int .i64 5)) (show (⟨g, 2, none⟩ : Addr).block < _ from hgs) (.int .i64 7)
  have hbw3 := ((hbw2.setCell (p := ⟨g, 0, none⟩) hgw (.slice A2 2 c2)).setCell (p := ⟨g, 1, none⟩) hgw (.int .i64 5)).setCell (p := ⟨g, 2, none⟩) hgw (.int .i64 7)
  clear HB HR HO HB2 HO2 q2 z2 l2 hb hbw2 hgs hgw
  revert hB3 hO3 hbw3
  generalize (((w2.setCell ⟨g, 0, none⟩ (.slice A2 2 c2)).setCell ⟨g, 1, none⟩ (.int .i64 5)).setCell ⟨g, 2, none⟩ (.int .i64 7)) = W3
  intro hB3 hO3 hbw3
  have HB3 := Lib.hid hB3
  have HR3 := Lib.hid (show Rd W3 W3.heap.size 2 A2 2 (stCells [(1200, 0), (9600, 1)]) from Rd.of_own hO3)
  clear hB3 hO3
  refine (place_any sample2 A2 2 c2 _ 4 1 6 true W3 HR3.out rfl (by decide) (by decide +kernel)).mono ?_
  rintro e w4 ⟨rfl, hb4⟩
  obtain ⟨q, z, l⟩ := HB3.out.below hb4
  have HR4 := Lib.hid (HR3.out.below hb4 (Nat.le_refl _))
  have hbw4 := ext_trans hbw3 hb4
  clear hb4
  go_wp2_with fail
  refine (index_cfg sample2 A2 2 c2 _ 1 6 4 true w4 HR4.out rfl (by decide) (by decide +kernel)).mono ?_
  rintro e w5 ⟨rfl, hb5⟩
  go_wp2
  go_ret
  exact ⟨rfl, ext_trans hbw4 hb5⟩
end Go.Proofs.Ytldpidononmfeaa

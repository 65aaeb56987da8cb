/- Layer 25: contract of the statements' outcome. -/
import Derived.Test.YtdkkfahnkenplaaNpA
import Derived.Test.YtdkkfahnkenplaaMake
set_option linter.unusedVariables false
set_option linter.unusedSimpArgs false
namespace Go.Proofs.Ytdkkfahnkenplaa
open Go.RowKit
variable {F : Nat → Prop}

set_option maxRecDepth 100000 in
set_option maxHeartbeats 2000000 in
theorem outcome_any (x : Int) (w : World) : Calls Try.prog 18 #[.int .i64 x] w fun e w' => ∃ o, e = .returned (ocV o) ∧ Below w.heap.size w w' ∧ oYes o = decide (x % 7 ≤ 1) ∧ oNo o = decide (x % 7 = 2 ∨ x % 7 = 3) := by
  obtain ⟨r, hr⟩ : ∃ r, x % 7 = r := ⟨_, rfl⟩
  obtain ⟨s, hs⟩ : ∃ s, x % 5 = s := ⟨_, rfl⟩
  have HM := Lib.hid (fun w => (show Calls Try.prog 20 #[.int .i64 x, .int .i64 7] w fun e w' => e = .returned (.int .i64 r) ∧ w = w' from hr ▸ mod_any x 7 (by omega) (by omega) w))
  have HM5 := Lib.hid (fun w => (show Calls Try.prog 20 #[.int .i64 x, .int .i64 5] w fun e w' => e = .returned (.int .i64 s) ∧ w = w' from hs ▸ mod_any x 5 (by omega) (by omega) w))
  have hs0 : 0 ≤ s ∧ s < 5 := by omega
  obtain ⟨hs1, hs2⟩ := hs0
  have hx : x = 4 → r = 4 := fun h => by omega
  have hx5 : x = 5 → r = 5 := fun h => by omega
  have HX := Lib.hid hr
  have hw : r = 0 ∨ r = 1 ∨ r = 2 ∨ r = 3 ∨ r = 4 ∨ r = 5 ∨ r = 6 := by omega
  have HB := Lib.hid (Box.alloc_ (w := w) (cs := #[.int .i64 0, .int .i64 0, .int .i64 0, .slice none 0 0, .int .i64 0, .int .i64 0, .bool false, .int .i64 0, .slice none 0 0]) (e := 49))
  have hb : Below w.heap.size w (w.alloc (.cells #[.int .i64 0, .int .i64 0, .int .i64 0, .slice none 0 0, .int .i64 0, .int .i64 0, .bool false, .int .i64 0, .slice none 0 0] 49)) := (Below.refl _ _).alloc (Nat.le_refl _) _
  clear hr hs hx hx5
  rcases hw with rfl | rfl | rfl | rfl | rfl | rfl | rfl
  · go_enter Try.func18, Try.ntmps18
    go_wp2_with fail
    refine (HM.out _).mono ?_
    rintro e wx ⟨rfl, rfl⟩
    have hsz : (w.alloc (.cells #[.int .i64 0, .int .i64 0, .int .i64 0, .slice none 0 0, .int .i64 0, .int .i64 0, .bool false, .int .i64 0, .slice none 0 0] 49)).heap.size = w.heap.size + 1 := by simp
    revert hb
    revert HB
    revert hsz
    generalize w.alloc (.cells #[.int .i64 0, .int .i64 0, .int .i64 0, .slice none 0 0, .int .i64 0, .int .i64 0, .bool false, .int .i64 0, .slice none 0 0] 49) = W1
    intro hsz HB hb
    have HSZ := Lib.hid hsz
    clear hsz
    obtain ⟨q9, z9, l9⟩ := HB.out
    have hBf := Box.alloc' ((((((((((HB.out.set (k := 0) (v := .int .i64 1) (cs' := #[.int .i64 1, .int .i64 0, .int .i64 0, .slice none 0 0, .int .i64 0, .int .i64 0, .bool false, .int .i64 0, .slice none 0 0]) (by simp) rfl).set (k := 1) (v := .int .i64 3) (cs' := #[.int .i64 1, .int .i64 3, .int .i64 0, .slice none 0 0, .int .i64 0, .int .i64 0, .bool false, .int .i64 0, .slice none 0 0]) (by simp) rfl).set (k := 2) (v := .int .i64 0) (cs' := #[.int .i64 1, .int .i64 3, .int .i64 0, .slice none 0 0, .int .i64 0, .int .i64 0, .bool false, .int .i64 0, .slice none 0 0]) (by simp) rfl).set (k := 3) (v := .slice (some ⟨W1.heap.size, 0, none⟩) 1 1) (cs' := #[.int .i64 1, .int .i64 3, .int .i64 0, .slice (some ⟨W1.heap.size, 0, none⟩) 1 1, .int .i64 0, .int .i64 0, .bool false, .int .i64 0, .slice none 0 0]) (by simp) rfl).set (k := 4) (v := .int .i64 0) (cs' := #[.int .i64 1, .int .i64 3, .int .i64 0, .slice (some ⟨W1.heap.size, 0, none⟩) 1 1, .int .i64 0, .int .i64 0, .bool false, .int .i64 0, .slice none 0 0]) (by simp) rfl).set (k := 5) (v := .int .i64 0) (cs' := #[.int .i64 1, .int .i64 3, .int .i64 0, .slice (some ⟨W1.heap.size, 0, none⟩) 1 1, .int .i64 0, .int .i64 0, .bool false, .int .i64 0, .slice none 0 0]) (by simp) rfl).set (k := 6) (v := .bool false) (cs' := #[.int .i64 1, .int .i64 3, .int .i64 0, .slice (some ⟨W1.heap.size, 0, none⟩) 1 1, .int .i64 0, .int .i64 0, .bool false, .int .i64 0, .slice none 0 0]) (by simp) rfl).set (k := 7) (v := .int .i64 0) (cs' := #[.int .i64 1, .int .i64 3, .int .i64 0, .slice (some ⟨W1.heap.size, 0, none⟩) 1 1, .int .i64 0, .int .i64 0, .bool false, .int .i64 0, .slice none 0 0]) (by simp) rfl).set (k := 8) (v := .slice none 0 0) (cs' := #[.int .i64 1, .int .i64 3, .int .i64 0, .slice (some ⟨W1.heap.size, 0, none⟩) 1 1, .int .i64 0, .int .i64 0, .bool false, .int .i64 0, .slice none 0 0]) (by simp) rfl)) (.cells #[.int .u8 1] 5)
    have hbf := ext_alloc ((((((((((hb.setCell (p := ⟨w.heap.size, 0, none⟩) (Nat.le_refl _) (.int .i64 1)).setCell (p := ⟨w.heap.size, 1, none⟩) (Nat.le_refl _) (.int .i64 3)).setCell (p := ⟨w.heap.size, 2, none⟩) (Nat.le_refl _) (.int .i64 0)).setCell (p := ⟨w.heap.size, 3, none⟩) (Nat.le_refl _) (.slice (some ⟨W1.heap.size, 0, none⟩) 1 1)).setCell (p := ⟨w.heap.size, 4, none⟩) (Nat.le_refl _) (.int .i64 0)).setCell (p := ⟨w.heap.size, 5, none⟩) (Nat.le_refl _) (.int .i64 0)).setCell (p := ⟨w.heap.size, 6, none⟩) (Nat.le_refl _) (.bool false)).setCell (p := ⟨w.heap.size, 7, none⟩) (Nat.le_refl _) (.int .i64 0)).setCell (p := ⟨w.heap.size, 8, none⟩) (Nat.le_refl _) (.slice none 0 0))) (.cells #[.int .u8 1] 5)
    go_wp2
    obtain ⟨qf, zf, lf⟩ := hBf
    refine bodyPost_ret (v := ocV ⟨1, 3, 0, some ⟨W1.heap.size, 0, none⟩, 1, 1, 0, 0, false, 0, none, 0, 0⟩) (by simp [results, Try.results18, go_sem, qf, zf, lf]) rfl ⟨⟨1, 3, 0, some ⟨W1.heap.size, 0, none⟩, 1, 1, 0, 0, false, 0, none, 0, 0⟩, rfl, hbf, by rw [HX.out]; first | exact ⟨rfl, rfl⟩ | (refine ⟨rfl, ?_⟩; simp only [oNo]; simp; omega)⟩
  · go_enter Try.func18, Try.ntmps18
    go_wp2_with fail
    refine (HM.out _).mono ?_
    rintro e wx ⟨rfl, rfl⟩
    have hsz : (w.alloc (.cells #[.int .i64 0, .int .i64 0, .int .i64 0, .slice none 0 0, .int .i64 0, .int .i64 0, .bool false, .int .i64 0, .slice none 0 0] 49)).heap.size = w.heap.size + 1 := by simp
    revert hb
    revert HB
    revert hsz
    generalize w.alloc (.cells #[.int .i64 0, .int .i64 0, .int .i64 0, .slice none 0 0, .int .i64 0, .int .i64 0, .bool false, .int .i64 0, .slice none 0 0] 49) = W1
    intro hsz HB hb
    have HSZ := Lib.hid hsz
    clear hsz
    obtain ⟨q9, z9, l9⟩ := HB.out
    have hBf := Box.alloc' ((((((((((HB.out.set (k := 0) (v := .int .i64 1) (cs' := #[.int .i64 1, .int .i64 0, .int .i64 0, .slice none 0 0, .int .i64 0, .int .i64 0, .bool false, .int .i64 0, .slice none 0 0]) (by simp) rfl).set (k := 1) (v := .int .i64 3) (cs' := #[.int .i64 1, .int .i64 3, .int .i64 0, .slice none 0 0, .int .i64 0, .int .i64 0, .bool false, .int .i64 0, .slice none 0 0]) (by simp) rfl).set (k := 2) (v := .int .i64 0) (cs' := #[.int .i64 1, .int .i64 3, .int .i64 0, .slice none 0 0, .int .i64 0, .int .i64 0, .bool false, .int .i64 0, .slice none 0 0]) (by simp) rfl).set (k := 3) (v := .slice (some ⟨W1.heap.size, 0, none⟩) 1 1) (cs' := #[.int .i64 1, .int .i64 3, .int .i64 0, .slice (some ⟨W1.heap.size, 0, none⟩) 1 1, .int .i64 0, .int .i64 0, .bool false, .int .i64 0, .slice none 0 0]) (by simp) rfl).set (k := 4) (v := .int .i64 0) (cs' := #[.int .i64 1, .int .i64 3, .int .i64 0, .slice (some ⟨W1.heap.size, 0, none⟩) 1 1, .int .i64 0, .int .i64 0, .bool false, .int .i64 0, .slice none 0 0]) (by simp) rfl).set (k := 5) (v := .int .i64 0) (cs' := #[.int .i64 1, .int .i64 3, .int .i64 0, .slice (some ⟨W1.heap.size, 0, none⟩) 1 1, .int .i64 0, .int .i64 0, .bool false, .int .i64 0, .slice none 0 0]) (by simp) rfl).set (k := 6) (v := .bool false) (cs' := #[.int .i64 1, .int .i64 3, .int .i64 0, .slice (some ⟨W1.heap.size, 0, none⟩) 1 1, .int .i64 0, .int .i64 0, .bool false, .int .i64 0, .slice none 0 0]) (by simp) rfl).set (k := 7) (v := .int .i64 0) (cs' := #[.int .i64 1, .int .i64 3, .int .i64 0, .slice (some ⟨W1.heap.size, 0, none⟩) 1 1, .int .i64 0, .int .i64 0, .bool false, .int .i64 0, .slice none 0 0]) (by simp) rfl).set (k := 8) (v := .slice none 0 0) (cs' := #[.int .i64 1, .int .i64 3, .int .i64 0, .slice (some ⟨W1.heap.size, 0, none⟩) 1 1, .int .i64 0, .int .i64 0, .bool false, .int .i64 0, .slice none 0 0]) (by simp) rfl)) (.cells #[.int .u8 1] 5)
    have hbf := ext_alloc ((((((((((hb.setCell (p := ⟨w.heap.size, 0, none⟩) (Nat.le_refl _) (.int .i64 1)).setCell (p := ⟨w.heap.size, 1, none⟩) (Nat.le_refl _) (.int .i64 3)).setCell (p := ⟨w.heap.size, 2, none⟩) (Nat.le_refl _) (.int .i64 0)).setCell (p := ⟨w.heap.size, 3, none⟩) (Nat.le_refl _) (.slice (some ⟨W1.heap.size, 0, none⟩) 1 1)).setCell (p := ⟨w.heap.size, 4, none⟩) (Nat.le_refl _) (.int .i64 0)).setCell (p := ⟨w.heap.size, 5, none⟩) (Nat.le_refl _) (.int .i64 0)).setCell (p := ⟨w.heap.size, 6, none⟩) (Nat.le_refl _) (.bool false)).setCell (p := ⟨w.heap.size, 7, none⟩) (Nat.le_refl _) (.int .i64 0)).setCell (p := ⟨w.heap.size, 8, none⟩) (Nat.le_refl _) (.slice none 0 0))) (.cells #[.int .u8 1] 5)
    go_wp2
    obtain ⟨qf, zf, lf⟩ := hBf
    refine bodyPost_ret (v := ocV ⟨1, 3, 0, some ⟨W1.heap.size, 0, none⟩, 1, 1, 0, 0, false, 0, none, 0, 0⟩) (by simp [results, Try.results18, go_sem, qf, zf, lf]) rfl ⟨⟨1, 3, 0, some ⟨W1.heap.size, 0, none⟩, 1, 1, 0, 0, false, 0, none, 0, 0⟩, rfl, hbf, by rw [HX.out]; first | exact ⟨rfl, rfl⟩ | (refine ⟨rfl, ?_⟩; simp only [oNo]; simp; omega)⟩
  · go_enter Try.func18, Try.ntmps18
    go_wp2_with fail
    refine (HM.out _).mono ?_
    rintro e wx ⟨rfl, rfl⟩
    have hsz : (w.alloc (.cells #[.int .i64 0, .int .i64 0, .int .i64 0, .slice none 0 0, .int .i64 0, .int .i64 0, .bool false, .int .i64 0, .slice none 0 0] 49)).heap.size = w.heap.size + 1 := by simp
    revert hb
    revert HB
    revert hsz
    generalize w.alloc (.cells #[.int .i64 0, .int .i64 0, .int .i64 0, .slice none 0 0, .int .i64 0, .int .i64 0, .bool false, .int .i64 0, .slice none 0 0] 49) = W1
    intro hsz HB hb
    have HSZ := Lib.hid hsz
    clear hsz
    obtain ⟨q9, z9, l9⟩ := HB.out
    have hBf := (((((((((HB.out.set (k := 0) (v := .int .i64 2) (cs' := #[.int .i64 2, .int .i64 0, .int .i64 0, .slice none 0 0, .int .i64 0, .int .i64 0, .bool false, .int .i64 0, .slice none 0 0]) (by simp) rfl).set (k := 1) (v := .int .i64 3) (cs' := #[.int .i64 2, .int .i64 3, .int .i64 0, .slice none 0 0, .int .i64 0, .int .i64 0, .bool false, .int .i64 0, .slice none 0 0]) (by simp) rfl).set (k := 2) (v := .int .i64 2) (cs' := #[.int .i64 2, .int .i64 3, .int .i64 2, .slice none 0 0, .int .i64 0, .int .i64 0, .bool false, .int .i64 0, .slice none 0 0]) (by simp) rfl).set (k := 3) (v := .slice none 0 0) (cs' := #[.int .i64 2, .int .i64 3, .int .i64 2, .slice none 0 0, .int .i64 0, .int .i64 0, .bool false, .int .i64 0, .slice none 0 0]) (by simp) rfl).set (k := 4) (v := .int .i64 0) (cs' := #[.int .i64 2, .int .i64 3, .int .i64 2, .slice none 0 0, .int .i64 0, .int .i64 0, .bool false, .int .i64 0, .slice none 0 0]) (by simp) rfl).set (k := 5) (v := .int .i64 0) (cs' := #[.int .i64 2, .int .i64 3, .int .i64 2, .slice none 0 0, .int .i64 0, .int .i64 0, .bool false, .int .i64 0, .slice none 0 0]) (by simp) rfl).set (k := 6) (v := .bool false) (cs' := #[.int .i64 2, .int .i64 3, .int .i64 2, .slice none 0 0, .int .i64 0, .int .i64 0, .bool false, .int .i64 0, .slice none 0 0]) (by simp) rfl).set (k := 7) (v := .int .i64 0) (cs' := #[.int .i64 2, .int .i64 3, .int .i64 2, .slice none 0 0, .int .i64 0, .int .i64 0, .bool false, .int .i64 0, .slice none 0 0]) (by simp) rfl).set (k := 8) (v := .slice none 0 0) (cs' := #[.int .i64 2, .int .i64 3, .int .i64 2, .slice none 0 0, .int .i64 0, .int .i64 0, .bool false, .int .i64 0, .slice none 0 0]) (by simp) rfl)
    have hbf := (((((((((hb.setCell (p := ⟨w.heap.size, 0, none⟩) (Nat.le_refl _) (.int .i64 2)).setCell (p := ⟨w.heap.size, 1, none⟩) (Nat.le_refl _) (.int .i64 3)).setCell (p := ⟨w.heap.size, 2, none⟩) (Nat.le_refl _) (.int .i64 2)).setCell (p := ⟨w.heap.size, 3, none⟩) (Nat.le_refl _) (.slice none 0 0)).setCell (p := ⟨w.heap.size, 4, none⟩) (Nat.le_refl _) (.int .i64 0)).setCell (p := ⟨w.heap.size, 5, none⟩) (Nat.le_refl _) (.int .i64 0)).setCell (p := ⟨w.heap.size, 6, none⟩) (Nat.le_refl _) (.bool false)).setCell (p := ⟨w.heap.size, 7, none⟩) (Nat.le_refl _) (.int .i64 0)).setCell (p := ⟨w.heap.size, 8, none⟩) (Nat.le_refl _) (.slice none 0 0))
    go_wp2
    obtain ⟨qf, zf, lf⟩ := hBf
    refine bodyPost_ret (v := ocV ⟨2, 3, 2, none, 0, 0, 0, 0, false, 0, none, 0, 0⟩) (by simp [results, Try.results18, go_sem, qf, zf, lf]) rfl ⟨⟨2, 3, 2, none, 0, 0, 0, 0, false, 0, none, 0, 0⟩, rfl, hbf, by rw [HX.out]; first | exact ⟨rfl, rfl⟩ | (refine ⟨rfl, ?_⟩; simp only [oNo]; simp; omega)⟩
  · go_enter Try.func18, Try.ntmps18
    go_wp2_with fail
    refine (HM.out _).mono ?_
    rintro e wx ⟨rfl, rfl⟩
    have hsz : (w.alloc (.cells #[.int .i64 0, .int .i64 0, .int .i64 0, .slice none 0 0, .int .i64 0, .int .i64 0, .bool false, .int .i64 0, .slice none 0 0] 49)).heap.size = w.heap.size + 1 := by simp
    revert hb
    revert HB
    revert hsz
    generalize w.alloc (.cells #[.int .i64 0, .int .i64 0, .int .i64 0, .slice none 0 0, .int .i64 0, .int .i64 0, .bool false, .int .i64 0, .slice none 0 0] 49) = W1
    intro hsz HB hb
    have HSZ := Lib.hid hsz
    clear hsz
    obtain ⟨q9, z9, l9⟩ := HB.out
    have hBf := (((((((((HB.out.set (k := 0) (v := .int .i64 2) (cs' := #[.int .i64 2, .int .i64 0, .int .i64 0, .slice none 0 0, .int .i64 0, .int .i64 0, .bool false, .int .i64 0, .slice none 0 0]) (by simp) rfl).set (k := 1) (v := .int .i64 3) (cs' := #[.int .i64 2, .int .i64 3, .int .i64 0, .slice none 0 0, .int .i64 0, .int .i64 0, .bool false, .int .i64 0, .slice none 0 0]) (by simp) rfl).set (k := 2) (v := .int .i64 2) (cs' := #[.int .i64 2, .int .i64 3, .int .i64 2, .slice none 0 0, .int .i64 0, .int .i64 0, .bool false, .int .i64 0, .slice none 0 0]) (by simp) rfl).set (k := 3) (v := .slice none 0 0) (cs' := #[.int .i64 2, .int .i64 3, .int .i64 2, .slice none 0 0, .int .i64 0, .int .i64 0, .bool false, .int .i64 0, .slice none 0 0]) (by simp) rfl).set (k := 4) (v := .int .i64 0) (cs' := #[.int .i64 2, .int .i64 3, .int .i64 2, .slice none 0 0, .int .i64 0, .int .i64 0, .bool false, .int .i64 0, .slice none 0 0]) (by simp) rfl).set (k := 5) (v := .int .i64 0) (cs' := #[.int .i64 2, .int .i64 3, .int .i64 2, .slice none 0 0, .int .i64 0, .int .i64 0, .bool false, .int .i64 0, .slice none 0 0]) (by simp) rfl).set (k := 6) (v := .bool false) (cs' := #[.int .i64 2, .int .i64 3, .int .i64 2, .slice none 0 0, .int .i64 0, .int .i64 0, .bool false, .int .i64 0, .slice none 0 0]) (by simp) rfl).set (k := 7) (v := .int .i64 0) (cs' := #[.int .i64 2, .int .i64 3, .int .i64 2, .slice none 0 0, .int .i64 0, .int .i64 0, .bool false, .int .i64 0, .slice none 0 0]) (by simp) rfl).set (k := 8) (v := .slice none 0 0) (cs' := #[.int .i64 2, .int .i64 3, .int .i64 2, .slice none 0 0, .int .i64 0, .int .i64 0, .bool false, .int .i64 0, .slice none 0 0]) (by simp) rfl)
    have hbf := (((((((((hb.setCell (p := ⟨w.heap.size, 0, none⟩) (Nat.le_refl _) (.int .i64 2)).setCell (p := ⟨w.heap.size, 1, none⟩) (Nat.le_refl _) (.int .i64 3)).setCell (p := ⟨w.heap.size, 2, none⟩) (Nat.le_refl _) (.int .i64 2)).setCell (p := ⟨w.heap.size, 3, none⟩) (Nat.le_refl _) (.slice none 0 0)).setCell (p := ⟨w.heap.size, 4, none⟩) (Nat.le_refl _) (.int .i64 0)).setCell (p := ⟨w.heap.size, 5, none⟩) (Nat.le_refl _) (.int .i64 0)).setCell (p := ⟨w.heap.size, 6, none⟩) (Nat.le_refl _) (.bool false)).setCell (p := ⟨w.heap.size, 7, none⟩) (Nat.le_refl _) (.int .i64 0)).setCell (p := ⟨w.heap.size, 8, none⟩) (Nat.le_refl _) (.slice none 0 0))
    go_wp2
    obtain ⟨qf, zf, lf⟩ := hBf
    refine bodyPost_ret (v := ocV ⟨2, 3, 2, none, 0, 0, 0, 0, false, 0, none, 0, 0⟩) (by simp [results, Try.results18, go_sem, qf, zf, lf]) rfl ⟨⟨2, 3, 2, none, 0, 0, 0, 0, false, 0, none, 0, 0⟩, rfl, hbf, by rw [HX.out]; first | exact ⟨rfl, rfl⟩ | (refine ⟨rfl, ?_⟩; simp only [oNo]; simp; omega)⟩
  · go_enter Try.func18, Try.ntmps18
    go_wp2_with fail
    refine (HM.out _).mono ?_
    rintro e wx ⟨rfl, rfl⟩
    have hsz : (w.alloc (.cells #[.int .i64 0, .int .i64 0, .int .i64 0, .slice none 0 0, .int .i64 0, .int .i64 0, .bool false, .int .i64 0, .slice none 0 0] 49)).heap.size = w.heap.size + 1 := by simp
    revert hb
    revert HB
    revert hsz
    generalize w.alloc (.cells #[.int .i64 0, .int .i64 0, .int .i64 0, .slice none 0 0, .int .i64 0, .int .i64 0, .bool false, .int .i64 0, .slice none 0 0] 49) = W1
    intro hsz HB hb
    have HSZ := Lib.hid hsz
    clear hsz
    obtain ⟨q9, z9, l9⟩ := HB.out
    have hBf := (((((((((HB.out.set (k := 0) (v := .int .i64 3) (cs' := #[.int .i64 3, .int .i64 0, .int .i64 0, .slice none 0 0, .int .i64 0, .int .i64 0, .bool false, .int .i64 0, .slice none 0 0]) (by simp) rfl).set (k := 1) (v := .int .i64 0) (cs' := #[.int .i64 3, .int .i64 0, .int .i64 0, .slice none 0 0, .int .i64 0, .int .i64 0, .bool false, .int .i64 0, .slice none 0 0]) (by simp) rfl).set (k := 2) (v := .int .i64 0) (cs' := #[.int .i64 3, .int .i64 0, .int .i64 0, .slice none 0 0, .int .i64 0, .int .i64 0, .bool false, .int .i64 0, .slice none 0 0]) (by simp) rfl).set (k := 3) (v := .slice none 0 0) (cs' := #[.int .i64 3, .int .i64 0, .int .i64 0, .slice none 0 0, .int .i64 0, .int .i64 0, .bool false, .int .i64 0, .slice none 0 0]) (by simp) rfl).set (k := 4) (v := .int .i64 0) (cs' := #[.int .i64 3, .int .i64 0, .int .i64 0, .slice none 0 0, .int .i64 0, .int .i64 0, .bool false, .int .i64 0, .slice none 0 0]) (by simp) rfl).set (k := 5) (v := .int .i64 0) (cs' := #[.int .i64 3, .int .i64 0, .int .i64 0, .slice none 0 0, .int .i64 0, .int .i64 0, .bool false, .int .i64 0, .slice none 0 0]) (by simp) rfl).set (k := 6) (v := .bool false) (cs' := #[.int .i64 3, .int .i64 0, .int .i64 0, .slice none 0 0, .int .i64 0, .int .i64 0, .bool false, .int .i64 0, .slice none 0 0]) (by simp) rfl).set (k := 7) (v := .int .i64 0) (cs' := #[.int .i64 3, .int .i64 0, .int .i64 0, .slice none 0 0, .int .i64 0, .int .i64 0, .bool false, .int .i64 0, .slice none 0 0]) (by simp) rfl).set (k := 8) (v := .slice none 0 0) (cs' := #[.int .i64 3, .int .i64 0, .int .i64 0, .slice none 0 0, .int .i64 0, .int .i64 0, .bool false, .int .i64 0, .slice none 0 0]) (by simp) rfl)
    have hbf := (((((((((hb.setCell (p := ⟨w.heap.size, 0, none⟩) (Nat.le_refl _) (.int .i64 3)).setCell (p := ⟨w.heap.size, 1, none⟩) (Nat.le_refl _) (.int .i64 0)).setCell (p := ⟨w.heap.size, 2, none⟩) (Nat.le_refl _) (.int .i64 0)).setCell (p := ⟨w.heap.size, 3, none⟩) (Nat.le_refl _) (.slice none 0 0)).setCell (p := ⟨w.heap.size, 4, none⟩) (Nat.le_refl _) (.int .i64 0)).setCell (p := ⟨w.heap.size, 5, none⟩) (Nat.le_refl _) (.int .i64 0)).setCell (p := ⟨w.heap.size, 6, none⟩) (Nat.le_refl _) (.bool false)).setCell (p := ⟨w.heap.size, 7, none⟩) (Nat.le_refl _) (.int .i64 0)).setCell (p := ⟨w.heap.size, 8, none⟩) (Nat.le_refl _) (.slice none 0 0))
    go_wp2
    obtain ⟨qf, zf, lf⟩ := hBf
    refine bodyPost_ret (v := ocV ⟨3, 0, 0, none, 0, 0, 0, 0, false, 0, none, 0, 0⟩) (by simp [results, Try.results18, go_sem, qf, zf, lf]) rfl ⟨⟨3, 0, 0, none, 0, 0, 0, 0, false, 0, none, 0, 0⟩, rfl, hbf, by rw [HX.out]; first | exact ⟨rfl, rfl⟩ | (refine ⟨rfl, ?_⟩; simp only [oNo]; simp; omega)⟩
  · go_enter Try.func18, Try.ntmps18
    go_wp2_with fail
    refine (HM.out _).mono ?_
    rintro e wx ⟨rfl, rfl⟩
    have hsz : (w.alloc (.cells #[.int .i64 0, .int .i64 0, .int .i64 0, .slice none 0 0, .int .i64 0, .int .i64 0, .bool false, .int .i64 0, .slice none 0 0] 49)).heap.size = w.heap.size + 1 := by simp
    revert hb
    revert HB
    revert hsz
    generalize w.alloc (.cells #[.int .i64 0, .int .i64 0, .int .i64 0, .slice none 0 0, .int .i64 0, .int .i64 0, .bool false, .int .i64 0, .slice none 0 0] 49) = W1
    intro hsz HB hb
    have HSZ := Lib.hid hsz
    clear hsz
    obtain ⟨q9, z9, l9⟩ := HB.out
    have hBf := (((((((((HB.out.set (k := 0) (v := .int .i64 4) (cs' := #[.int .i64 4, .int .i64 0, .int .i64 0, .slice none 0 0, .int .i64 0, .int .i64 0, .bool false, .int .i64 0, .slice none 0 0]) (by simp) rfl).set (k := 1) (v := .int .i64 0) (cs' := #[.int .i64 4, .int .i64 0, .int .i64 0, .slice none 0 0, .int .i64 0, .int .i64 0, .bool false, .int .i64 0, .slice none 0 0]) (by simp) rfl).set (k := 2) (v := .int .i64 0) (cs' := #[.int .i64 4, .int .i64 0, .int .i64 0, .slice none 0 0, .int .i64 0, .int .i64 0, .bool false, .int .i64 0, .slice none 0 0]) (by simp) rfl).set (k := 3) (v := .slice none 0 0) (cs' := #[.int .i64 4, .int .i64 0, .int .i64 0, .slice none 0 0, .int .i64 0, .int .i64 0, .bool false, .int .i64 0, .slice none 0 0]) (by simp) rfl).set (k := 4) (v := .int .i64 0) (cs' := #[.int .i64 4, .int .i64 0, .int .i64 0, .slice none 0 0, .int .i64 0, .int .i64 0, .bool false, .int .i64 0, .slice none 0 0]) (by simp) rfl).set (k := 5) (v := .int .i64 0) (cs' := #[.int .i64 4, .int .i64 0, .int .i64 0, .slice none 0 0, .int .i64 0, .int .i64 0, .bool false, .int .i64 0, .slice none 0 0]) (by simp) rfl).set (k := 6) (v := .bool false) (cs' := #[.int .i64 4, .int .i64 0, .int .i64 0, .slice none 0 0, .int .i64 0, .int .i64 0, .bool false, .int .i64 0, .slice none 0 0]) (by simp) rfl).set (k := 7) (v := .int .i64 0) (cs' := #[.int .i64 4, .int .i64 0, .int .i64 0, .slice none 0 0, .int .i64 0, .int .i64 0, .bool false, .int .i64 0, .slice none 0 0]) (by simp) rfl).set (k := 8) (v := .slice none 0 0) (cs' := #[.int .i64 4, .int .i64 0, .int .i64 0, .slice none 0 0, .int .i64 0, .int .i64 0, .bool false, .int .i64 0, .slice none 0 0]) (by simp) rfl)
    have hbf := (((((((((hb.setCell (p := ⟨w.heap.size, 0, none⟩) (Nat.le_refl _) (.int .i64 4)).setCell (p := ⟨w.heap.size, 1, none⟩) (Nat.le_refl _) (.int .i64 0)).setCell (p := ⟨w.heap.size, 2, none⟩) (Nat.le_refl _) (.int .i64 0)).setCell (p := ⟨w.heap.size, 3, none⟩) (Nat.le_refl _) (.slice none 0 0)).setCell (p := ⟨w.heap.size, 4, none⟩) (Nat.le_refl _) (.int .i64 0)).setCell (p := ⟨w.heap.size, 5, none⟩) (Nat.le_refl _) (.int .i64 0)).setCell (p := ⟨w.heap.size, 6, none⟩) (Nat.le_refl _) (.bool false)).setCell (p := ⟨w.heap.size, 7, none⟩) (Nat.le_refl _) (.int .i64 0)).setCell (p := ⟨w.heap.size, 8, none⟩) (Nat.le_refl _) (.slice none 0 0))
    go_wp2
    obtain ⟨qf, zf, lf⟩ := hBf
    refine bodyPost_ret (v := ocV ⟨4, 0, 0, none, 0, 0, 0, 0, false, 0, none, 0, 0⟩) (by simp [results, Try.results18, go_sem, qf, zf, lf]) rfl ⟨⟨4, 0, 0, none, 0, 0, 0, 0, false, 0, none, 0, 0⟩, rfl, hbf, by rw [HX.out]; first | exact ⟨rfl, rfl⟩ | (refine ⟨rfl, ?_⟩; simp only [oNo]; simp; omega)⟩
  · go_enter Try.func18, Try.ntmps18
    go_wp2_with fail
    refine (HM.out _).mono ?_
    rintro e wx ⟨rfl, rfl⟩
    have hsz : (w.alloc (.cells #[.int .i64 0, .int .i64 0, .int .i64 0, .slice none 0 0, .int .i64 0, .int .i64 0, .bool false, .int .i64 0, .slice none 0 0] 49)).heap.size = w.heap.size + 1 := by simp
    revert hb
    revert HB
    revert hsz
    generalize w.alloc (.cells #[.int .i64 0, .int .i64 0, .int .i64 0, .slice none 0 0, .int .i64 0, .int .i64 0, .bool false, .int .i64 0, .slice none 0 0] 49) = W1
    intro hsz HB hb
    have HSZ := Lib.hid hsz
    clear hsz
    obtain ⟨q9, z9, l9⟩ := HB.out
    go_wp2_with fail
    refine (HM5.out _).mono ?_
    rintro e wx ⟨rfl, rfl⟩
    have hBf := (((((((((HB.out.set (k := 0) (v := .int .i64 2) (cs' := #[.int .i64 2, .int .i64 0, .int .i64 0, .slice none 0 0, .int .i64 0, .int .i64 0, .bool false, .int .i64 0, .slice none 0 0]) (by simp) rfl).set (k := 1) (v := .int .i64 3) (cs' := #[.int .i64 2, .int .i64 3, .int .i64 0, .slice none 0 0, .int .i64 0, .int .i64 0, .bool false, .int .i64 0, .slice none 0 0]) (by simp) rfl).set (k := 2) (v := .int .i64 (3 + s)) (cs' := #[.int .i64 2, .int .i64 3, .int .i64 (3 + s), .slice none 0 0, .int .i64 0, .int .i64 0, .bool false, .int .i64 0, .slice none 0 0]) (by simp) rfl).set (k := 3) (v := .slice none 0 0) (cs' := #[.int .i64 2, .int .i64 3, .int .i64 (3 + s), .slice none 0 0, .int .i64 0, .int .i64 0, .bool false, .int .i64 0, .slice none 0 0]) (by simp) rfl).set (k := 4) (v := .int .i64 0) (cs' := #[.int .i64 2, .int .i64 3, .int .i64 (3 + s), .slice none 0 0, .int .i64 0, .int .i64 0, .bool false, .int .i64 0, .slice none 0 0]) (by simp) rfl).set (k := 5) (v := .int .i64 0) (cs' := #[.int .i64 2, .int .i64 3, .int .i64 (3 + s), .slice none 0 0, .int .i64 0, .int .i64 0, .bool false, .int .i64 0, .slice none 0 0]) (by simp) rfl).set (k := 6) (v := .bool false) (cs' := #[.int .i64 2, .int .i64 3, .int .i64 (3 + s), .slice none 0 0, .int .i64 0, .int .i64 0, .bool false, .int .i64 0, .slice none 0 0]) (by simp) rfl).set (k := 7) (v := .int .i64 0) (cs' := #[.int .i64 2, .int .i64 3, .int .i64 (3 + s), .slice none 0 0, .int .i64 0, .int .i64 0, .bool false, .int .i64 0, .slice none 0 0]) (by simp) rfl).set (k := 8) (v := .slice none 0 0) (cs' := #[.int .i64 2, .int .i64 3, .int .i64 (3 + s), .slice none 0 0, .int .i64 0, .int .i64 0, .bool false, .int .i64 0, .slice none 0 0]) (by simp) rfl)
    have hbf := (((((((((hb.setCell (p := ⟨w.heap.size, 0, none⟩) (Nat.le_refl _) (.int .i64 2)).setCell (p := ⟨w.heap.size, 1, none⟩) (Nat.le_refl _) (.int .i64 3)).setCell (p := ⟨w.heap.size, 2, none⟩) (Nat.le_refl _) (.int .i64 (3 + s))).setCell (p := ⟨w.heap.size, 3, none⟩) (Nat.le_refl _) (.slice none 0 0)).setCell (p := ⟨w.heap.size, 4, none⟩) (Nat.le_refl _) (.int .i64 0)).setCell (p := ⟨w.heap.size, 5, none⟩) (Nat.le_refl _) (.int .i64 0)).setCell (p := ⟨w.heap.size, 6, none⟩) (Nat.le_refl _) (.bool false)).setCell (p := ⟨w.heap.size, 7, none⟩) (Nat.le_refl _) (.int .i64 0)).setCell (p := ⟨w.heap.size, 8, none⟩) (Nat.le_refl _) (.slice none 0 0))
    go_wp2
    obtain ⟨qf, zf, lf⟩ := hBf
    refine bodyPost_ret (v := ocV ⟨2, 3, 3 + s, none, 0, 0, 0, 0, false, 0, none, 0, 0⟩) (by simp [results, Try.results18, go_sem, qf, zf, lf]) rfl ⟨⟨2, 3, 3 + s, none, 0, 0, 0, 0, false, 0, none, 0, 0⟩, rfl, hbf, by rw [HX.out]; first | exact ⟨rfl, rfl⟩ | (refine ⟨rfl, ?_⟩; simp only [oNo]; simp; omega)⟩
end Go.Proofs.Ytdkkfahnkenplaa

/- The law MapSteps: the walk. -/
import Derived.Test.YtdkkfahnkenplaaNpD
import Derived.Test.YtdkkfahnkenplaaNpO
import Derived.Test.YtdkkfahnkenplaaNpP
set_option linter.unusedVariables false
set_option linter.unusedSimpArgs false
namespace Go.Proofs.Ytdkkfahnkenplaa
open Go.RowKit

theorem halve_tb (S : Mst) (n : Nat) (yes no : Bool) : (halveS S n yes no).tb = S.tb ∧ (halveS S n yes no).fs = S.fs := by
  unfold halveS learnS
  cases yes <;> cases no <;> simp <;> split <;> simp
theorem feed_tb (S : Mst) (yes no : Bool) : (feedS S yes no).tb = S.tb ∧ (feedS S yes no).fs = S.fs := by
  unfold feedS
  split
  · exact halve_tb _ _ _ _
  · unfold learnS
    cases yes <;> cases no <;> simp <;> split <;> simp
/-- The blocks that the program's row avoids. -/
def Fr (g h : Nat) (row : Option Nat) (b : Nat) : Prop := b = g ∨ b = h ∨ some b = row
/-- Both maps are in state S, which is sound. -/
def Snd (fs : Int) (k : Nat) (S : Mst) : Prop := MInv S ∧ S.q ≤ k ∧ S.fs = fs
def Twin (w0 w : World) (g h : Nat) (S : Mst) : Prop := ∃ row, MapAt (Fr g h row) w g S ∧ RfAt w h row S ∧ Below w0.heap.size w0 w
theorem Twin.below {w0 w w' : World} {g h : Nat} {S : Mst} (t : Twin w0 w g h S) (hb : Below w.heap.size w w') : Twin w0 w' g h S := by
  obtain ⟨row, h1, h2, h3⟩ := t
  exact ⟨row, h1.below hb, h2.below hb, ext_trans h3 hb⟩
theorem Twin.mem {w0 w : World} {g h : Nat} {S : Mst} (t : Twin w0 w g h S) : Below w0.heap.size w0 w := by
  obtain ⟨row, h1, h2, h3⟩ := t
  exact h3
/-- Behind the program's Feed. -/
def Half (w0 w : World) (g h : Nat) (S S' : Mst) : Prop := ∃ row, MapAt (Fr g h row) w g S' ∧ RfAt w h row S ∧ Below w0.heap.size w0 w
theorem half_of {w0 w w' : World} {g h : Nat} {row : Option Nat} {S S' : Mst} (b : RfAt w h row S) (c : Below w0.heap.size w0 w) (a' : MapAt (Fr g h row) w' g S') (hg : w.grownBy w' (some g)) (hgh : g < h) (hw : w0.heap.size ≤ g) : Half w0 w' g h S S' :=
  ⟨row, a', b.off hg hgh, c.grown hg c.size (fun i hi => by injection hi with hi; omega)⟩
/-- Behind the reference's Feed. -/
theorem twin_of {w0 w w' : World} {g h : Nat} {row : Option Nat} {S S' : Mst} (a : MapAt (Fr g h row) w g S') (b : RfAt w h row S) (c : Below w0.heap.size w0 w) (t : RfTo w h row S' w') (hgh : g < h) (hw : w0.heap.size ≤ g) : Twin w0 w' g h S' := by
  obtain ⟨row', k1, k2, k3⟩ := t
  refine ⟨row', a.other k2.2.2.2.1 (fun i hi hn => k2.2.2.2.2 i hi ?_ ?_) (.inl rfl) (fun i hi => ?_), k1, below_chg c k2 c.size (by omega) (fun i hi => by have := b.row_lt i hi; omega)⟩
  · rcases hn with rfl | hn
    · omega
    · intro e; exact hn (.inr (.inl e))
  · rcases hn with rfl | hn
    · intro e; have := b.row_lt i e.symm; omega
    · intro e; exact hn (.inr (.inr e))
  · rcases hi with rfl | rfl | hi
    · refine ⟨.inl (.inl rfl), ?_⟩
      have := k1.box_lt
      omega
    · exact ⟨.inl (.inr (.inl rfl)), k1.box_lt⟩
    · refine ⟨?_, (k1.row_lt i hi.symm).2⟩
      rcases k3 with rfl | ⟨b, rfl, hb⟩
      · exact .inl (.inr (.inr hi))
      · injection hi with hi; exact .inr (by omega)
/-- What Next returns. -/
def nxL (S : Mst) : Bool := decide (S.ks.length < S.N)
theorem twin_next {w0 : World} {g h : Nat} {S : Mst} {k : Nat} {fs : Int} (hs : Snd fs k S) (hf : 0 ≤ fs ∧ fs ≤ 65536) (l : Bool) (hl : nxL S = l) : ∃ q1 q2 q3 : Int,
    (∀ W, Twin w0 W g h S → Calls Try.prog 11 #[mptr g] W fun e w' => e = .returned (.tuple #[.agg #[.int .i64 q1, .int .i64 q2, .int .i64 q3, .int .i64 0, .int .i64 0], .bool l]) ∧ Below W.heap.size W w') ∧
    (∀ W, Twin w0 W g h S → Calls Try.prog 12 #[mptr h] W fun e w' => e = .returned (.tuple #[.agg #[.int .i64 q1, .int .i64 q2, .int .i64 q3, .int .i64 0, .int .i64 0], .bool l]) ∧ Below W.heap.size W w') := by
  obtain ⟨hI, hq, hfs⟩ := hs
  by_cases hlt : S.ks.length < S.N
  · have e : l = true := by rw [← hl, nxL, decide_eq_true hlt]
    subst e
    refine ⟨S.tb, S.fs + S.ks.length, sizeN S, fun W t => ?_, fun W t => ?_⟩
    · obtain ⟨row, h1, h2, h3⟩ := t
      exact next_any S g W h1 hI.1 hlt (by rw [hfs]; exact hf) _ rfl _ rfl
    · obtain ⟨row, h1, h2, h3⟩ := t
      exact rnext_any S h row W h2 hI.1 hlt (by rw [hfs]; exact hf) _ rfl _ rfl
  · have e : l = false := by rw [← hl, nxL, decide_eq_false hlt]
    subst e
    have hle : S.ks.length = S.N := by have := hI.1.1; omega
    refine ⟨0, 0, 0, fun W t => ?_, fun W t => ?_⟩
    · obtain ⟨row, h1, h2, h3⟩ := t
      exact next_end S g W h1 hI.1 hle
    · obtain ⟨row, h1, h2, h3⟩ := t
      exact rnext_end S h row W h2 hI.1 hle
/-- Both Feeds with the same kind of outcome. -/
theorem twin_feed {w0 : World} {g h : Nat} {S : Mst} {k : Nat} {fs : Int} (hs : Snd fs k S) (hf : 0 ≤ fs ∧ fs ≤ 65536) (hk : k < 1000) (hgh : g < h) (hw : w0.heap.size ≤ g) (yes no : Bool) : ∃ (z : Int) (P : World → Prop) (S' : Mst), Snd fs (k + 1) S' ∧
    (∀ W o, oYes o = yes → oNo o = no → Twin w0 W g h S → Calls Try.prog 17 #[mptr g, ocV o] W fun e w' => e = .returned (.int .i64 z) ∧ P w') ∧
    (∀ W o, oYes o = yes → oNo o = no → P W → Calls Try.prog 19 #[mptr h, ocV o] W fun e w' => e = .returned (.int .i64 z) ∧ Twin w0 w' g h S') ∧
    (∀ W, P W → Below w0.heap.size w0 W) ∧ (∀ W W', P W → Below W.heap.size W W' → P W') := by
  obtain ⟨hI, hq, hfs⟩ := hs
  by_cases hlt : S.ks.length < S.N
  · by_cases hyn : yes = true ∧ no = true
    · refine ⟨0, fun _ => False, S, ⟨hI, by omega, hfs⟩, fun W o h1 h2 => ?_, fun W o h1 h2 h3 => h3.elim, fun W h => h.elim, fun W W' h => h.elim⟩
      exact absurd (by rw [h1, h2]; exact hyn) (yes_no o)
    · obtain ⟨i1, i2, i3, i4, _⟩ := feed_phi (lg S.N + 3) S yes no hI hlt (by omega) hyn (Nat.le_refl _)
      refine ⟨0, fun W => Half w0 W g h S (feedS S yes no), feedS S yes no, ⟨i1, by omega, by rw [(feed_tb S yes no).2]; exact hfs⟩, fun W o h1 h2 t => ?_, fun W o h1 h2 t => ?_, fun W t => ?_, fun W W' t hb => ?_⟩
      · obtain ⟨row, t1, t2, t3⟩ := t
        refine (feed_any S g o W t1 hI hlt (by omega)).mono ?_
        rintro e w' ⟨rfl, hm, hg⟩
        rw [h1, h2] at hm
        exact ⟨rfl, half_of t2 t3 hm hg hgh hw⟩
      · obtain ⟨row, t1, t2, t3⟩ := t
        refine (rfeed_any S h row o W t2 hI hlt (by omega) (by rw [hfs]; exact hf)).mono ?_
        rintro e w' ⟨rfl, hm⟩
        rw [h1, h2] at hm
        exact ⟨rfl, twin_of t1 t2 t3 hm hgh hw⟩
      · obtain ⟨row, t1, t2, t3⟩ := t; exact t3
      · obtain ⟨row, t1, t2, t3⟩ := t
        exact ⟨row, t1.below hb, t2.below hb, ext_trans t3 hb⟩
  · have hle : S.ks.length = S.N := by have := hI.1.1; omega
    refine ⟨12, fun W => Twin w0 W g h S, S, ⟨hI, by omega, hfs⟩, fun W o h1 h2 t => ?_, fun W o h1 h2 t => ?_, fun W t => t.mem, fun W W' t hb => t.below hb⟩
    · have t' := t
      obtain ⟨row, t1, t2, t3⟩ := t
      refine (mfeed_end S g o W t1 hI.1 hle).mono ?_
      rintro e w' ⟨rfl, hb⟩
      exact ⟨rfl, t'.below hb⟩
    · have t' := t
      obtain ⟨row, t1, t2, t3⟩ := t
      refine (rfeed_end S h row o W t2 hI.1 hle).mono ?_
      rintro e w' ⟨rfl, hb⟩
      exact ⟨rfl, t'.below hb⟩

set_option maxRecDepth 100000 in
set_option maxHeartbeats 2000000 in
theorem mapSteps_no (tb fs N M : Int) (A : Option Addr) (n c : Nat) (w : World) (hok : newOk tb fs N M = false) (hN : -9223372036854775808 ≤ N ∧ N ≤ 9223372036854775807) :
    Calls Try.prog 3 #[.int .i64 tb, .agg #[.int .i64 fs, .int .i64 N], .int .i64 M, .slice A n c] w fun e w' => e = .returned (.bool true) ∧ Below w.heap.size w w' := by
  have HM := Lib.hid (fun W => mnew_no tb fs N M W hok hN)
  have HR := Lib.hid (fun W => rnew_no tb fs N M W hok hN)
  have hb0 : Below w.heap.size w (w.alloc (.cells #[.int .i64 fs, .int .i64 N] 23)) := (Below.refl _ _).alloc (Nat.le_refl _) _
  have HB0 := Lib.hid (Box.alloc_ (w := w) (cs := #[.int .i64 fs, .int .i64 N]) (e := 23))
  clear hok hN
  go_enter Try.func3, Try.ntmps3
  go_upto_region 1 with fail
  obtain ⟨W0, hW0⟩ : ∃ W, w.alloc (.cells #[.int .i64 fs, .int .i64 N] 23) = W := ⟨_, rfl⟩
  rw [hW0] at hb0 HB0 ⊢
  clear hW0
  have hS : (∀ i, W0.drew.cell? ⟨w.heap.size, i, none⟩ = (#[.int .i64 fs, .int .i64 N] : Array Value)[i]?) ∧ True ∧ True := ⟨HB0.out.1, trivial, trivial⟩
  refine rgs_start (fun w' => (∀ i, w'.cell? ⟨w.heap.size, i, none⟩ = (#[.int .i64 fs, .int .i64 N] : Array Value)[i]?) ∧ True ∧ True) (by kernel_rfl) ?_
  refine rgs_t (v := ?_) (some 18) 0 (by kernel_rfl) rfl rfl (by assumption) (.inl ⟨by rfl, fun w' hw => ?_⟩) ?_
  rotate_left
  · obtain ⟨q1, q2, q3⟩ := hw; go_simp <;> with_reducible rfl
  try simp only [Act.put, List.setIfInBounds_toArray, List.set_cons_zero, List.set_cons_succ]
  refine rgs_t (v := ?_) (some 19) 1 (by kernel_rfl) rfl rfl (by assumption) (.inl ⟨by rfl, fun w' hw => ?_⟩) ?_
  rotate_left
  · obtain ⟨q1, q2, q3⟩ := hw; go_simp <;> with_reducible rfl
  try simp only [Act.put, List.setIfInBounds_toArray, List.set_cons_zero, List.set_cons_succ]
  refine rgs_t (v := ?_) (some 20) 2 (by kernel_rfl) rfl rfl (by assumption) (.inl ⟨by rfl, fun w' hw => ?_⟩) ?_
  rotate_left
  · obtain ⟨q1, q2, q3⟩ := hw; go_simp <;> with_reducible rfl
  try simp only [Act.put, List.setIfInBounds_toArray, List.set_cons_zero, List.set_cons_succ]
  refine rgs_t (v := ?_) (some 22) 4 (by kernel_rfl) rfl rfl (by assumption) (.inl ⟨by rfl, fun w' hw => ?_⟩) ?_
  rotate_left
  · obtain ⟨q1, q2, q3⟩ := hw; go_simp <;> with_reducible rfl
  try simp only [Act.put, List.setIfInBounds_toArray, List.set_cons_zero, List.set_cons_succ]
  refine rgs_t (v := ?_) (some 23) 5 (by kernel_rfl) rfl rfl (by assumption) (.inl ⟨by rfl, fun w' hw => ?_⟩) ?_
  rotate_left
  · obtain ⟨q1, q2, q3⟩ := hw; go_simp <;> with_reducible rfl
  try simp only [Act.put, List.setIfInBounds_toArray, List.set_cons_zero, List.set_cons_succ]
  refine rgs_t (v := ?_) (some 24) 6 (by kernel_rfl) rfl rfl (by assumption) (.inl ⟨by rfl, fun w' hw => ?_⟩) ?_
  rotate_left
  · obtain ⟨q1, q2, q3⟩ := hw; go_simp <;> with_reducible rfl
  try simp only [Act.put, List.setIfInBounds_toArray, List.set_cons_zero, List.set_cons_succ]
  refine rgs_c 3 (by kernel_rfl) rfl (by rfl) (fun K hK => ?_)
  go_simp
  refine (HM.out _).mono ?_
  rintro e x1 ⟨rfl, hb1⟩
  have hbc : Below W0.heap.size W0 x1 := (below_drew (Below.refl _ _)).trans hb1
  have hS1 : (∀ i, x1.cell? ⟨w.heap.size, i, none⟩ = (#[.int .i64 fs, .int .i64 N] : Array Value)[i]?) ∧ True ∧ True := ⟨(HB0.out.below hbc).1, trivial, trivial⟩
  refine hK _ _ hS1 ?_
  clear hK K
  try simp only [Act.put, List.setIfInBounds_toArray, List.set_cons_zero, List.set_cons_succ]
  refine rgs_c 7 (by kernel_rfl) rfl (by rfl) (fun K hK => ?_)
  go_simp
  refine (HR.out _).mono ?_
  rintro e x2 ⟨rfl, hb2⟩
  have hbc2 : Below W0.heap.size W0 x2 := ext_trans hbc hb2
  have hS2 : (∀ i, x2.cell? ⟨w.heap.size, i, none⟩ = (#[.int .i64 fs, .int .i64 N] : Array Value)[i]?) ∧ True ∧ True := ⟨(HB0.out.below hbc2).1, trivial, trivial⟩
  refine hK _ _ hS2 ?_
  clear hK K
  try simp only [Act.put, List.setIfInBounds_toArray, List.set_cons_zero, List.set_cons_succ]
  refine rgs_t (v := ?_) (some 9) 8 (by kernel_rfl) rfl rfl (by assumption) (.inl ⟨by rfl, fun w' hw => ?_⟩) ?_
  rotate_left
  · obtain ⟨q1, q2, q3⟩ := hw; go_simp <;> with_reducible rfl
  try simp only [Act.put, List.setIfInBounds_toArray, List.set_cons_zero, List.set_cons_succ]
  refine rgs_t (v := ?_) (some 10) 9 (by kernel_rfl) rfl rfl (by assumption) (.inl ⟨by rfl, fun w' hw => ?_⟩) ?_
  rotate_left
  · obtain ⟨q1, q2, q3⟩ := hw; go_simp <;> with_reducible rfl
  try simp only [Act.put, List.setIfInBounds_toArray, List.set_cons_zero, List.set_cons_succ]
  refine rgs_d (by kernel_rfl) ?_
  have hbw := ext_trans hb0 hbc2
  clear hS hS1 hS2 hbc hbc2 hb1 hb2 hb0
  go_wp2_with fail
  refine (awake_any _).mono ?_
  rintro e x3 ⟨rfl, hb3⟩
  go_wp2
  go_ret
  exact ⟨rfl, ext_trans hbw hb3⟩

set_option maxRecDepth 100000 in
set_option maxHeartbeats 16000000 in
theorem mapSteps_yes (tb fs : Int) (N M : Nat) (xs : List Int) (A : Option Addr) (n c : Nat) (w : World) (hok : newOk tb fs N M = true) (hr : Rd w w.heap.size 1 A n (rints xs)) (hm : n ≤ maxLen) :
    Calls Try.prog 3 #[.int .i64 tb, .agg #[.int .i64 fs, .int .i64 N], .int .i64 M, .slice A n c] w fun e w' => e = .returned (.bool true) ∧ Below w.heap.size w w' := by
  have HM := Lib.hid (fun W => mnew_yes tb fs N M W hok)
  have HR := Lib.hid (fun W => rnew_yes tb fs N M W hok)
  have hn5 : n ≤ 9223372036854775807 := by unfold maxLen at hm; omega
  obtain ⟨b1, b2, b3, b4, b5, b6, b7, b8⟩ := of_decide_eq_true hok
  have hf : 0 ≤ fs ∧ fs ≤ 65536 := ⟨b5, by omega⟩
  have HF := Lib.hid hf
  have hs0 : Snd fs 0 ⟨tb, fs, N, M, 0, 0, 0, [], 0⟩ := ⟨⟨⟨Nat.zero_le _, by show N ≤ 512; omega, by show M ≤ 2000; omega, Nat.zero_le _, Nat.zero_le _, Nat.zero_le _⟩, by show 1 ≤ M; omega, fun h => (by cases h), Nat.zero_le _⟩, Nat.le_refl _, rfl⟩
  have HS0 := Lib.hid hs0
  have HX := Lib.hid hr
  have hxl : xs.length = n := by have := hr.1; simpa using this
  have HXL := Lib.hid hxl
  have hb0 : Below w.heap.size w (w.alloc (.cells #[.int .i64 fs, .int .i64 N] 23)) := (Below.refl _ _).alloc (Nat.le_refl _) _
  have HB0 := Lib.hid (Box.alloc_ (w := w) (cs := #[.int .i64 fs, .int .i64 N]) (e := 23))
  clear hok hs0 hr hm b1 b2 b3 b4 b5 b6 b7 b8 hf hxl
  go_enter Try.func3, Try.ntmps3
  go_upto_region 1 with fail
  obtain ⟨W0, hW0⟩ : ∃ W, w.alloc (.cells #[.int .i64 fs, .int .i64 N] 23) = W := ⟨_, rfl⟩
  rw [hW0] at hb0 HB0 ⊢
  clear hW0
  have hS : (∀ i, W0.drew.cell? ⟨w.heap.size, i, none⟩ = (#[.int .i64 fs, .int .i64 N] : Array Value)[i]?) ∧ True ∧ True := ⟨HB0.out.1, trivial, trivial⟩
  refine rgs_start (fun w' => (∀ i, w'.cell? ⟨w.heap.size, i, none⟩ = (#[.int .i64 fs, .int .i64 N] : Array Value)[i]?) ∧ True ∧ True) (by kernel_rfl) ?_
  refine rgs_t (v := ?_) (some 18) 0 (by kernel_rfl) rfl rfl (by assumption) (.inl ⟨by rfl, fun w' hw => ?_⟩) ?_
  rotate_left
  · obtain ⟨q1, q2, q3⟩ := hw; go_simp <;> with_reducible rfl
  try simp only [Act.put, List.setIfInBounds_toArray, List.set_cons_zero, List.set_cons_succ]
  refine rgs_t (v := ?_) (some 19) 1 (by kernel_rfl) rfl rfl (by assumption) (.inl ⟨by rfl, fun w' hw => ?_⟩) ?_
  rotate_left
  · obtain ⟨q1, q2, q3⟩ := hw; go_simp <;> with_reducible rfl
  try simp only [Act.put, List.setIfInBounds_toArray, List.set_cons_zero, List.set_cons_succ]
  refine rgs_t (v := ?_) (some 20) 2 (by kernel_rfl) rfl rfl (by assumption) (.inl ⟨by rfl, fun w' hw => ?_⟩) ?_
  rotate_left
  · obtain ⟨q1, q2, q3⟩ := hw; go_simp <;> with_reducible rfl
  try simp only [Act.put, List.setIfInBounds_toArray, List.set_cons_zero, List.set_cons_succ]
  refine rgs_t (v := ?_) (some 22) 4 (by kernel_rfl) rfl rfl (by assumption) (.inl ⟨by rfl, fun w' hw => ?_⟩) ?_
  rotate_left
  · obtain ⟨q1, q2, q3⟩ := hw; go_simp <;> with_reducible rfl
  try simp only [Act.put, List.setIfInBounds_toArray, List.set_cons_zero, List.set_cons_succ]
  refine rgs_t (v := ?_) (some 23) 5 (by kernel_rfl) rfl rfl (by assumption) (.inl ⟨by rfl, fun w' hw => ?_⟩) ?_
  rotate_left
  · obtain ⟨q1, q2, q3⟩ := hw; go_simp <;> with_reducible rfl
  try simp only [Act.put, List.setIfInBounds_toArray, List.set_cons_zero, List.set_cons_succ]
  refine rgs_t (v := ?_) (some 24) 6 (by kernel_rfl) rfl rfl (by assumption) (.inl ⟨by rfl, fun w' hw => ?_⟩) ?_
  rotate_left
  · obtain ⟨q1, q2, q3⟩ := hw; go_simp <;> with_reducible rfl
  try simp only [Act.put, List.setIfInBounds_toArray, List.set_cons_zero, List.set_cons_succ]
  refine rgs_c 3 (by kernel_rfl) rfl (by rfl) (fun K hK => ?_)
  go_simp
  refine (HM.out _).mono ?_
  rintro e x1 ⟨g, rfl, hg0, hMA, hgl, hb1⟩
  have hbc : Below W0.heap.size W0 x1 := (below_drew (Below.refl _ _)).trans hb1
  have hS1 : (∀ i, x1.cell? ⟨w.heap.size, i, none⟩ = (#[.int .i64 fs, .int .i64 N] : Array Value)[i]?) ∧ True ∧ True := ⟨(HB0.out.below hbc).1, trivial, trivial⟩
  have HMA := Lib.hid hMA
  clear hMA
  refine hK _ _ hS1 ?_
  clear hK K
  try simp only [Act.put, List.setIfInBounds_toArray, List.set_cons_zero, List.set_cons_succ]
  refine rgs_c 7 (by kernel_rfl) rfl (by rfl) (fun K hK => ?_)
  go_simp
  refine (HR.out _).mono ?_
  rintro e x2 ⟨h, rfl, hh0, hRA, hb2⟩
  have hbc2 : Below W0.heap.size W0 x2 := ext_trans hbc hb2
  have hS2 : (∀ i, x2.cell? ⟨w.heap.size, i, none⟩ = (#[.int .i64 fs, .int .i64 N] : Array Value)[i]?) ∧ True ∧ True := ⟨(HB0.out.below hbc2).1, trivial, trivial⟩
  have HRA := Lib.hid hRA
  clear hRA
  refine hK _ _ hS2 ?_
  clear hK K
  try simp only [Act.put, List.setIfInBounds_toArray, List.set_cons_zero, List.set_cons_succ]
  refine rgs_t (v := ?_) (some 9) 8 (by kernel_rfl) rfl rfl (by assumption) (.inl ⟨by rfl, fun w' hw => ?_⟩) ?_
  rotate_left
  · obtain ⟨q1, q2, q3⟩ := hw; go_simp <;> with_reducible rfl
  try simp only [Act.put, List.setIfInBounds_toArray, List.set_cons_zero, List.set_cons_succ]
  refine rgs_t (v := ?_) (some 10) 9 (by kernel_rfl) rfl rfl (by assumption) (.inl ⟨by rfl, fun w' hw => ?_⟩) ?_
  rotate_left
  · obtain ⟨q1, q2, q3⟩ := hw; go_simp <;> with_reducible rfl
  try simp only [Act.put, List.setIfInBounds_toArray, List.set_cons_zero, List.set_cons_succ]
  refine rgs_d (by kernel_rfl) ?_
  have hgh : g < h := by omega
  have hgw : w.heap.size ≤ g := Nat.le_trans hb0.size hg0
  have ht0 : Twin w x2 g h ⟨tb, fs, N, M, 0, 0, 0, [], 0⟩ := by
    obtain ⟨v, k1, k2, k3⟩ := HRA.out (h + 1)
    have hrf : RfAt x2 h v.ownBlock ⟨tb, fs, N, M, 0, 0, 0, [], 0⟩ := ⟨v, rfl, k1, k2⟩
    refine ⟨_, (HMA.out (fun b => b = g) rfl (fun b hb => by rw [hb]; exact hgl)).other hb2.size (fun i hi _ => hb2.block i hi) (.inl rfl) (fun i hi => ?_), hrf, ext_trans hb0 hbc2⟩
    rcases hi with rfl | rfl | hi
    · exact ⟨.inl rfl, Nat.lt_of_lt_of_le hgl hb2.size⟩
    · exact ⟨.inr hh0, hrf.box_lt⟩
    · have := hrf.row_lt i hi.symm
      exact ⟨.inr (by omega), this.2⟩
  have HT0 := Lib.hid ht0
  clear hS hS1 hS2 hbc hbc2 hb1 hb2 hb0 HMA HRA ht0 hg0 hh0 hgl HM HR HB0
  go_wp2_with fail
  go_loopw [11, 12, 13, 14, 15, 16, 17] (fun kk _ _ _ _ _ _ wr => ∃ (k : Nat) (S : Mst), kk = .int .i64 k ∧ k ≤ n + 1 ∧ k ≤ 120 ∧ Snd fs k S ∧ Twin w wr g h S) (fun kk _ _ _ _ _ _ _ => n + 1 - (intOf kk).toNat)
  case atStart => exact ⟨0, _, rfl, by omega, by omega, HS0.out, HT0.out⟩
  case round =>
    obtain ⟨k, S, rfl, hk, hk2, hsn, hT⟩ := hrel
    have HT := Lib.hid hT
    have HSN := Lib.hid hsn
    clear hT HT0 hsn HS0
    by_cases hlt : k ≤ n
    · by_cases hlt2 : k < 120
      · obtain ⟨l, hl⟩ : ∃ l, nxL S = l := ⟨_, rfl⟩
        obtain ⟨q1, q2, q3, hn1, hn2⟩ := twin_next (w0 := w) (g := g) (h := h) HSN.out HF.out l hl
        have HN1 := Lib.hid hn1
        have HN2 := Lib.hid hn2
        have HL := Lib.hid hl
        clear hn1 hn2 hl
        go_wp2_with fail
        refine (HN1.out _ HT.out).mono ?_
        rintro e w4 ⟨rfl, hb4⟩
        have hb5 := (Below.refl w4.heap.size w4).alloc (Nat.le_refl _) (.cells #[.int .i64 q1, .int .i64 q2, .int .i64 q3, .int .i64 0, .int .i64 0] 31)
        have HT5 := Lib.hid ((HT.out.below hb4).below hb5)
        have HB6 := Lib.hid (Box.alloc_ (w := w4) (cs := #[.int .i64 q1, .int .i64 q2, .int .i64 q3, .int .i64 0, .int .i64 0]) (e := 31))
        clear hb4 hb5 HT HN1
        go_upto_region 10 with fail
        obtain ⟨b6, hb6⟩ : ∃ b, w4.heap.size = b := ⟨_, rfl⟩
        obtain ⟨W5, hW5⟩ : ∃ W, w4.alloc (.cells #[.int .i64 q1, .int .i64 q2, .int .i64 q3, .int .i64 0, .int .i64 0] 31) = W := ⟨_, rfl⟩
        rw [hW5] at HT5 HB6 ⊢
        rw [hb6] at HB6 ⊢
        clear hW5 hb6
        go_wp2_with fail
        refine (HN2.out _ HT5.out).mono ?_
        rintro e w6 ⟨rfl, hb4⟩
        have hb5 := (Below.refl w6.heap.size w6).alloc (Nat.le_refl _) (.cells #[.int .i64 q1, .int .i64 q2, .int .i64 q3, .int .i64 0, .int .i64 0] 31)
        have HT7 := Lib.hid ((HT5.out.below hb4).below hb5)
        have HB6 := Lib.hid ((HB6.out.below hb4).below hb5)
        have HB8 := Lib.hid (Box.alloc_ (w := w6) (cs := #[.int .i64 q1, .int .i64 q2, .int .i64 q3, .int .i64 0, .int .i64 0]) (e := 31))
        clear hb4 hb5 HT5 HN2
        go_upto_region 11 with fail
        obtain ⟨b8, hb8⟩ : ∃ b, w6.heap.size = b := ⟨_, rfl⟩
        obtain ⟨W7, hW7⟩ : ∃ W, w6.alloc (.cells #[.int .i64 q1, .int .i64 q2, .int .i64 q3, .int .i64 0, .int .i64 0] 31) = W := ⟨_, rfl⟩
        rw [hW7] at HT7 HB6 HB8 ⊢
        rw [hb8] at HB8 ⊢
        clear hW7 hb8
        have HQU := Lib.hid (fun (W : World) (t : Twin w W g h S) => show Calls Try.prog 14 #[mptr g] W fun e w' => e = .returned (.int .i64 S.q) ∧ W = w' from by
          obtain ⟨row, t1, t2, t3⟩ := t
          exact queries_any S g W t1)
        have hq0 : ((S.q : Int) != (S.q : Int)) = false := by simp
        cases l
        · -- ended
          have hle : S.ks.length = S.N := by have := HL.out; simp only [nxL, decide_eq_false_iff_not] at this; have := HSN.out.1.1.1; omega
          obtain ⟨rs, hrs⟩ : ∃ rs, ofL S.ks = rs := ⟨_, rfl⟩
          obtain ⟨m, hm⟩ : ∃ m, rs.length = m := ⟨_, rfl⟩
          have hm5 : m ≤ 512 := by
            have h1 := ofL_length S.ks
            rw [hrs, hm] at h1
            have := HSN.out.1.1.2.1
            omega
          have HSP := Lib.hid (show Calls Try.prog 13 #[mptr g] W7 fun e w' => ∃ A c, e = .returned (.tuple #[.slice A m c, .bool true]) ∧ Rd w' w'.heap.size 2 A m (rnCells rs) ∧ Below W7.heap.size W7 w' from by
            obtain ⟨row, t1, t2, t3⟩ := HT7.out
            refine (spans_any S g W7 t1 HSN.out.1.1 hle rs hrs m hm).mono ?_
            rintro e w' ⟨A, c, rfl, ho, hb⟩
            obtain ⟨A2, c2, hv, _, hR⟩ := own_form ho
            injection hv with h1 _ h2
            subst h1 h2
            exact ⟨_, _, rfl, hR, hb⟩)
          have HRS := Lib.hid hrs
          have HMM := Lib.hid hm
          clear hrs hm
          go_wp2_with fail
          refine HSP.out.mono ?_
          rintro e w8 ⟨A9, c9, rfl, hR9, hb8⟩
          have HR9 := Lib.hid hR9
          clear HSP hR9
          have HB6 := Lib.hid (HB6.out.below hb8)
          have HB8 := Lib.hid (HB8.out.below hb8)
          have HT8 := Lib.hid (HT7.out.below hb8)
          clear hb8 HT7
          obtain ⟨row, hma, ⟨v, hv1, hv2, hv3⟩, hbl⟩ := HT8.out
          obtain ⟨A5, c5, hv, _, hR5⟩ := own_form hv2
          subst hv
          obtain ⟨l5, hl5⟩ : ∃ l, S.ks.length = l := ⟨_, rfl⟩
          rw [hl5] at hv3 hR5
          have HBH := Lib.hid hv3
          have HR5 := Lib.hid hR5
          have HL5 := Lib.hid hl5
          clear hma hv1 hv2 hv3 hbl hR5 hl5
          have HT9 := Lib.hid (HT8.out.below (below_drew (Below.refl w8.heap.size w8)))
          have hb08 : Below w8.heap.size w8 w8.drew := below_drew (Below.refl _ _)
          have hS : (∀ i, w8.drew.cell? ⟨b6, i, none⟩ = (#[.int .i64 q1, .int .i64 q2, .int .i64 q3, .int .i64 0, .int .i64 0] : Array Value)[i]?) ∧ (∀ i, w8.drew.cell? ⟨b8, i, none⟩ = (#[.int .i64 q1, .int .i64 q2, .int .i64 q3, .int .i64 0, .int .i64 0] : Array Value)[i]?) ∧ (∀ i, w8.drew.cell? ⟨h, i, none⟩ = (#[.int .i64 S.tb, .int .i64 S.fs, .int .i64 S.N, .int .i64 S.M, .slice A5 l5 c5, .int .i64 S.mode, .int .i64 S.lo, .int .i64 S.hi, .int .i64 S.q] : Array Value)[i]?) := ⟨HB6.out.1, HB8.out.1, HBH.out.1⟩
          have hl52 : l5 ≤ 512 := by have := HL5.out; have := HSN.out.1.1.2.1; omega
          have HSB := Lib.hid (fun (W : World) (hb : Below w8.heap.size w8 W) => rspans_any S.ks A5 l5 c5 w8.heap.size W (HR5.out.below hb (Nat.le_refl _)) (by omega) rs HRS.out m HMM.out)
          have HSM := Lib.hid (fun (W : World) (A2 : Option Addr) (c2 : Nat) (hb : Below w8.heap.size w8 W) (hr : Rd W W.heap.size 2 A2 m (rnCells rs)) => same_any rs A9 A2 m c9 c2 W.heap.size W ((HR9.out.below hb (Nat.le_refl _)).more hb.size) hr (by omega))
          have hSx := hS
          go_upto_region 12 with fail
          refine rgs_start (fun w' => (∀ i, w'.cell? ⟨b6, i, none⟩ = (#[.int .i64 q1, .int .i64 q2, .int .i64 q3, .int .i64 0, .int .i64 0] : Array Value)[i]?) ∧ (∀ i, w'.cell? ⟨b8, i, none⟩ = (#[.int .i64 q1, .int .i64 q2, .int .i64 q3, .int .i64 0, .int .i64 0] : Array Value)[i]?) ∧ (∀ i, w'.cell? ⟨h, i, none⟩ = (#[.int .i64 S.tb, .int .i64 S.fs, .int .i64 S.N, .int .i64 S.M, .slice A5 l5 c5, .int .i64 S.mode, .int .i64 S.lo, .int .i64 S.hi, .int .i64 S.q] : Array Value)[i]?)) (by kernel_rfl) ?_
          refine rgs_t (v := ?_) (some 60) 0 (by kernel_rfl) rfl rfl (by assumption) (.inl ⟨by rfl, fun w' hw => ?_⟩) ?_
          rotate_left
          · obtain ⟨q1, q2, q3⟩ := hw; go_simp <;> with_reducible rfl
          try simp only [Act.put, List.setIfInBounds_toArray, List.set_cons_zero, List.set_cons_succ]
          refine rgs_t (v := ?_) (some 61) 1 (by kernel_rfl) rfl rfl (by assumption) (.inl ⟨by rfl, fun w' hw => ?_⟩) ?_
          rotate_left
          · obtain ⟨q1, q2, q3⟩ := hw; go_simp <;> with_reducible rfl
          try simp only [Act.put, List.setIfInBounds_toArray, List.set_cons_zero, List.set_cons_succ]
          refine rgs_t (v := ?_) (some 62) 2 (by kernel_rfl) rfl rfl (by assumption) (.inl ⟨by rfl, fun w' hw => ?_⟩) ?_
          rotate_left
          · obtain ⟨q1, q2, q3⟩ := hw; go_simp <;> with_reducible rfl
          try simp only [Act.put, List.setIfInBounds_toArray, List.set_cons_zero, List.set_cons_succ]
          refine rgs_t (v := ?_) (some 63) 3 (by kernel_rfl) rfl rfl (by assumption) (.inl ⟨by rfl, fun w' hw => ?_⟩) ?_
          rotate_left
          · obtain ⟨q1, q2, q3⟩ := hw; go_simp <;> with_reducible rfl
          try simp only [Act.put, List.setIfInBounds_toArray, List.set_cons_zero, List.set_cons_succ]
          refine rgs_t (v := ?_) (some 64) 4 (by kernel_rfl) rfl rfl (by assumption) (.inl ⟨by rfl, fun w' hw => ?_⟩) ?_
          rotate_left
          · obtain ⟨q1, q2, q3⟩ := hw; go_simp <;> with_reducible rfl
          try simp only [Act.put, List.setIfInBounds_toArray, List.set_cons_zero, List.set_cons_succ]
          refine rgs_t (v := ?_) (some 65) 5 (by kernel_rfl) rfl rfl (by assumption) (.inl ⟨by rfl, fun w' hw => ?_⟩) ?_
          rotate_left
          · obtain ⟨q1, q2, q3⟩ := hw; go_simp <;> with_reducible rfl
          try simp only [Act.put, List.setIfInBounds_toArray, List.set_cons_zero, List.set_cons_succ]
          refine rgs_t (v := ?_) (some 66) 6 (by kernel_rfl) rfl rfl (by assumption) (.inl ⟨by rfl, fun w' hw => ?_⟩) ?_
          rotate_left
          · obtain ⟨q1, q2, q3⟩ := hw; go_simp <;> with_reducible rfl
          try simp only [Act.put, List.setIfInBounds_toArray, List.set_cons_zero, List.set_cons_succ]
          refine rgs_t (v := ?_) (some 67) 7 (by kernel_rfl) rfl rfl (by assumption) (.inl ⟨by rfl, fun w' hw => ?_⟩) ?_
          rotate_left
          · obtain ⟨q1, q2, q3⟩ := hw; go_simp <;> with_reducible rfl
          try simp only [Act.put, List.setIfInBounds_toArray, List.set_cons_zero, List.set_cons_succ]
          refine rgs_t (v := ?_) (some 68) 8 (by kernel_rfl) rfl rfl (by assumption) (.inl ⟨by rfl, fun w' hw => ?_⟩) ?_
          rotate_left
          · obtain ⟨q1, q2, q3⟩ := hw; go_simp <;> with_reducible rfl
          try simp only [Act.put, List.setIfInBounds_toArray, List.set_cons_zero, List.set_cons_succ]
          refine rgs_t (v := ?_) (some 69) 9 (by kernel_rfl) rfl rfl (by assumption) (.inl ⟨by rfl, fun w' hw => ?_⟩) ?_
          rotate_left
          · obtain ⟨q1, q2, q3⟩ := hw; go_simp <;> with_reducible rfl
          try simp only [Act.put, List.setIfInBounds_toArray, List.set_cons_zero, List.set_cons_succ]
          refine rgs_t (v := ?_) (some 70) 10 (by kernel_rfl) rfl rfl (by assumption) (.inl ⟨by rfl, fun w' hw => ?_⟩) ?_
          rotate_left
          · obtain ⟨q1, q2, q3⟩ := hw; go_simp <;> with_reducible rfl
          try simp only [Act.put, List.setIfInBounds_toArray, List.set_cons_zero, List.set_cons_succ]
          refine rgs_t (v := ?_) (some 71) 11 (by kernel_rfl) rfl rfl (by assumption) (.inl ⟨by rfl, fun w' hw => ?_⟩) ?_
          rotate_left
          · obtain ⟨q1, q2, q3⟩ := hw; go_simp <;> with_reducible rfl
          try simp only [Act.put, List.setIfInBounds_toArray, List.set_cons_zero, List.set_cons_succ]
          refine rgs_t (v := ?_) (some 72) 12 (by kernel_rfl) rfl rfl (by assumption) (.inl ⟨by rfl, fun w' hw => ?_⟩) ?_
          rotate_left
          · obtain ⟨q1, q2, q3⟩ := hw; go_simp <;> with_reducible rfl
          try simp only [Act.put, List.setIfInBounds_toArray, List.set_cons_zero, List.set_cons_succ]
          refine rgs_t (v := ?_) (some 73) 13 (by kernel_rfl) rfl rfl (by assumption) (.inl ⟨by rfl, fun w' hw => ?_⟩) ?_
          rotate_left
          · obtain ⟨q1, q2, q3⟩ := hw; go_simp <;> with_reducible rfl
          try simp only [Act.put, List.setIfInBounds_toArray, List.set_cons_zero, List.set_cons_succ]
          refine rgs_t (v := ?_) (some 74) 14 (by kernel_rfl) rfl rfl (by assumption) (.inl ⟨by rfl, fun w' hw => ?_⟩) ?_
          rotate_left
          · obtain ⟨q1, q2, q3⟩ := hw; go_simp <;> with_reducible rfl
          try simp only [Act.put, List.setIfInBounds_toArray, List.set_cons_zero, List.set_cons_succ]
          refine rgs_t (v := ?_) (some 76) 16 (by kernel_rfl) rfl rfl (by assumption) (.inl ⟨by rfl, fun w' hw => ?_⟩) ?_
          rotate_left
          · obtain ⟨q1, q2, q3⟩ := hw; go_simp <;> with_reducible rfl
          try simp only [Act.put, List.setIfInBounds_toArray, List.set_cons_zero, List.set_cons_succ]
          refine rgs_t (v := ?_) (some 77) 17 (by kernel_rfl) rfl rfl (by assumption) (.inl ⟨by rfl, fun w' hw => ?_⟩) ?_
          rotate_left
          · obtain ⟨q1, q2, q3⟩ := hw; go_simp <;> with_reducible rfl
          try simp only [Act.put, List.setIfInBounds_toArray, List.set_cons_zero, List.set_cons_succ]
          refine rgs_t (v := ?_) (some 78) 18 (by kernel_rfl) rfl rfl (by assumption) (.inl ⟨by rfl, fun w' hw => ?_⟩) ?_
          rotate_left
          · obtain ⟨q1, q2, q3⟩ := hw; go_simp <;> with_reducible rfl
          try simp only [Act.put, List.setIfInBounds_toArray, List.set_cons_zero, List.set_cons_succ]
          refine rgs_t (v := ?_) (some 79) 19 (by kernel_rfl) rfl rfl (by assumption) (.inl ⟨by rfl, fun w' hw => ?_⟩) ?_
          rotate_left
          · obtain ⟨q1, q2, q3⟩ := hw; go_simp <;> with_reducible rfl
          try simp only [Act.put, List.setIfInBounds_toArray, List.set_cons_zero, List.set_cons_succ]
          refine rgs_c 15 (by kernel_rfl) rfl (by rfl) (fun K hK => ?_)
          go_simp
          refine (HQU.out _ HT9.out).mono ?_
          rintro e xq ⟨rfl, rfl⟩
          refine hK _ _ hS ?_
          clear hK K
          try simp only [Act.put, List.setIfInBounds_toArray, List.set_cons_zero, List.set_cons_succ]
          refine rgs_t (v := ?_) (some 80) 20 (by kernel_rfl) rfl rfl (by assumption) (.inl ⟨by rfl, fun w' hw => ?_⟩) ?_
          rotate_left
          · obtain ⟨q1, q2, q3⟩ := hw; go_simp <;> with_reducible rfl
          try simp only [Act.put, List.setIfInBounds_toArray, List.set_cons_zero, List.set_cons_succ]
          refine rgs_t (v := ?_) (some 81) 21 (by kernel_rfl) rfl rfl (by assumption) (.inl ⟨by rfl, fun w' hw => ?_⟩) ?_
          rotate_left
          · obtain ⟨q1, q2, q3⟩ := hw; go_simp <;> with_reducible rfl
          try simp only [Act.put, List.setIfInBounds_toArray, List.set_cons_zero, List.set_cons_succ]
          refine rgs_t (v := ?_) (some 82) 22 (by kernel_rfl) rfl rfl (by assumption) (.inl ⟨by rfl, fun w' hw => ?_⟩) ?_
          rotate_left
          · obtain ⟨q1, q2, q3⟩ := hw; go_simp <;> with_reducible rfl
          try simp only [Act.put, List.setIfInBounds_toArray, List.set_cons_zero, List.set_cons_succ]
          refine rgs_t (v := ?_) (some 83) 23 (by kernel_rfl) rfl rfl (by assumption) (.inl ⟨by rfl, fun w' hw => ?_⟩) ?_
          rotate_left
          · obtain ⟨q1, q2, q3⟩ := hw; go_simp <;> with_reducible rfl
          try simp only [Act.put, List.setIfInBounds_toArray, List.set_cons_zero, List.set_cons_succ]
          refine rgs_t (v := ?_) (some 84) 24 (by kernel_rfl) rfl rfl (by assumption) (.inl ⟨by rfl, fun w' hw => ?_⟩) ?_
          rotate_left
          · obtain ⟨q1, q2, q3⟩ := hw; go_simp <;> with_reducible rfl
          try simp only [Act.put, List.setIfInBounds_toArray, List.set_cons_zero, List.set_cons_succ]
          refine rgs_t (v := ?_) (some 85) 25 (by kernel_rfl) rfl rfl (by assumption) (.inl ⟨by rfl, fun w' hw => ?_⟩) ?_
          rotate_left
          · obtain ⟨q1, q2, q3⟩ := hw; go_simp <;> with_reducible rfl
          try simp only [Act.put, List.setIfInBounds_toArray, List.set_cons_zero, List.set_cons_succ]
          refine rgs_t (v := ?_) (some 86) 26 (by kernel_rfl) rfl rfl (by assumption) (.inl ⟨by rfl, fun w' hw => ?_⟩) ?_
          rotate_left
          · obtain ⟨q1, q2, q3⟩ := hw; go_simp <;> with_reducible rfl
          try simp only [Act.put, List.setIfInBounds_toArray, List.set_cons_zero, List.set_cons_succ]
          refine rgs_t (v := ?_) (some 87) 27 (by kernel_rfl) rfl rfl (by assumption) (.inl ⟨by rfl, fun w' hw => ?_⟩) ?_
          rotate_left
          · obtain ⟨q1, q2, q3⟩ := hw; go_simp <;> with_reducible rfl
          try simp only [Act.put, List.setIfInBounds_toArray, List.set_cons_zero, List.set_cons_succ]
          refine rgs_t (v := ?_) (some 88) 28 (by kernel_rfl) rfl rfl (by assumption) (.inl ⟨by rfl, fun w' hw => ?_⟩) ?_
          rotate_left
          · obtain ⟨q1, q2, q3⟩ := hw; go_simp <;> with_reducible rfl
          try simp only [Act.put, List.setIfInBounds_toArray, List.set_cons_zero, List.set_cons_succ]
          refine rgs_t (v := ?_) (some 89) 29 (by kernel_rfl) rfl rfl (by assumption) (.inl ⟨by rfl, fun w' hw => ?_⟩) ?_
          rotate_left
          · obtain ⟨q1, q2, q3⟩ := hw; go_simp <;> with_reducible rfl
          try simp only [Act.put, List.setIfInBounds_toArray, List.set_cons_zero, List.set_cons_succ]
          refine rgs_c 30 (by kernel_rfl) rfl (by rfl) (fun K hK => ?_)
          go_simp
          refine (HSB.out _ hb08).mono ?_
          rintro e y1 ⟨A7, c7, rfl, hR7, hb7⟩
          have hb17 := ext_trans hb08 hb7
          have HR7 := Lib.hid hR7
          have hS1 : (∀ i, y1.cell? ⟨b6, i, none⟩ = (#[.int .i64 q1, .int .i64 q2, .int .i64 q3, .int .i64 0, .int .i64 0] : Array Value)[i]?) ∧ (∀ i, y1.cell? ⟨b8, i, none⟩ = (#[.int .i64 q1, .int .i64 q2, .int .i64 q3, .int .i64 0, .int .i64 0] : Array Value)[i]?) ∧ (∀ i, y1.cell? ⟨h, i, none⟩ = (#[.int .i64 S.tb, .int .i64 S.fs, .int .i64 S.N, .int .i64 S.M, .slice A5 l5 c5, .int .i64 S.mode, .int .i64 S.lo, .int .i64 S.hi, .int .i64 S.q] : Array Value)[i]?) := ⟨(HB6.out.below hb17).1, (HB8.out.below hb17).1, (HBH.out.below hb17).1⟩
          clear hR7 hb7
          refine hK _ _ hS1 ?_
          clear hK K
          try simp only [Act.put, List.setIfInBounds_toArray, List.set_cons_zero, List.set_cons_succ]
          refine rgs_c 31 (by kernel_rfl) rfl (by rfl) (fun K hK => ?_)
          go_simp
          refine (HSM.out _ _ _ hb17 HR7.out).mono ?_
          rintro e y2 ⟨rfl, hb9⟩
          have hb18 := ext_trans hb17 hb9
          have hS2 : (∀ i, y2.cell? ⟨b6, i, none⟩ = (#[.int .i64 q1, .int .i64 q2, .int .i64 q3, .int .i64 0, .int .i64 0] : Array Value)[i]?) ∧ (∀ i, y2.cell? ⟨b8, i, none⟩ = (#[.int .i64 q1, .int .i64 q2, .int .i64 q3, .int .i64 0, .int .i64 0] : Array Value)[i]?) ∧ (∀ i, y2.cell? ⟨h, i, none⟩ = (#[.int .i64 S.tb, .int .i64 S.fs, .int .i64 S.N, .int .i64 S.M, .slice A5 l5 c5, .int .i64 S.mode, .int .i64 S.lo, .int .i64 S.hi, .int .i64 S.q] : Array Value)[i]?) := ⟨(HB6.out.below hb18).1, (HB8.out.below hb18).1, (HBH.out.below hb18).1⟩
          clear hb9
          refine hK _ _ hS2 ?_
          clear hK K
          try simp only [Act.put, List.setIfInBounds_toArray, List.set_cons_zero, List.set_cons_succ]
          refine rgs_t (v := ?_) (some 92) 32 (by kernel_rfl) rfl rfl (by assumption) (.inl ⟨by rfl, fun w' hw => ?_⟩) ?_
          rotate_left
          · obtain ⟨q1, q2, q3⟩ := hw; go_simp <;> with_reducible rfl
          try simp only [Act.put, List.setIfInBounds_toArray, List.set_cons_zero, List.set_cons_succ]
          refine rgs_t (v := ?_) (some 93) 33 (by kernel_rfl) rfl rfl (by assumption) (.inl ⟨by rfl, fun w' hw => ?_⟩) ?_
          rotate_left
          · obtain ⟨q1, q2, q3⟩ := hw; go_simp <;> with_reducible rfl
          try simp only [Act.put, List.setIfInBounds_toArray, List.set_cons_zero, List.set_cons_succ]
          refine rgs_t (v := ?_) (some 94) 34 (by kernel_rfl) rfl rfl (by assumption) (.inl ⟨by rfl, fun w' hw => ?_⟩) ?_
          rotate_left
          · obtain ⟨q1, q2, q3⟩ := hw; go_simp <;> with_reducible rfl
          try simp only [Act.put, List.setIfInBounds_toArray, List.set_cons_zero, List.set_cons_succ]
          refine rgs_t (v := ?_) (some 95) 35 (by kernel_rfl) rfl rfl (by assumption) (.inl ⟨by rfl, fun w' hw => ?_⟩) ?_
          rotate_left
          · obtain ⟨q1, q2, q3⟩ := hw; go_simp <;> with_reducible rfl
          try simp only [Act.put, List.setIfInBounds_toArray, List.set_cons_zero, List.set_cons_succ]
          refine rgs_t (v := ?_) (some 96) 36 (by kernel_rfl) rfl rfl (by assumption) (.inl ⟨by rfl, fun w' hw => ?_⟩) ?_
          rotate_left
          · obtain ⟨q1, q2, q3⟩ := hw; go_simp <;> with_reducible rfl
          try simp only [Act.put, List.setIfInBounds_toArray, List.set_cons_zero, List.set_cons_succ]
          refine rgs_t (v := ?_) (some 97) 37 (by kernel_rfl) rfl rfl (by assumption) (.inl ⟨by rfl, fun w' hw => ?_⟩) ?_
          rotate_left
          · obtain ⟨q1, q2, q3⟩ := hw; go_simp <;> with_reducible rfl
          try simp only [Act.put, List.setIfInBounds_toArray, List.set_cons_zero, List.set_cons_succ]
          refine rgs_t (v := ?_) (some 98) 38 (by kernel_rfl) rfl rfl (by assumption) (.inl ⟨by rfl, fun w' hw => ?_⟩) ?_
          rotate_left
          · obtain ⟨q1, q2, q3⟩ := hw; go_simp <;> with_reducible rfl
          try simp only [Act.put, List.setIfInBounds_toArray, List.set_cons_zero, List.set_cons_succ]
          refine rgs_t (some 99) 39 (by kernel_rfl) rfl rfl (by assumption) (.inr ⟨by rfl, rfl⟩) ?_
          try simp only [Act.put, List.setIfInBounds_toArray, List.set_cons_zero, List.set_cons_succ]
          refine rgs_t (some 100) 40 (by kernel_rfl) rfl rfl (by assumption) (.inr ⟨by rfl, rfl⟩) ?_
          try simp only [Act.put, List.setIfInBounds_toArray, List.set_cons_zero, List.set_cons_succ]
          refine rgs_t (some 101) 41 (by kernel_rfl) rfl rfl (by assumption) (.inr ⟨by rfl, rfl⟩) ?_
          try simp only [Act.put, List.setIfInBounds_toArray, List.set_cons_zero, List.set_cons_succ]
          refine rgs_t (v := ?_) (some 102) 42 (by kernel_rfl) rfl rfl (by assumption) (.inl ⟨by rfl, fun w' hw => ?_⟩) ?_
          rotate_left
          · obtain ⟨q1, q2, q3⟩ := hw; go_simp <;> with_reducible rfl
          try simp only [Act.put, List.setIfInBounds_toArray, List.set_cons_zero, List.set_cons_succ]
          refine rgs_t (v := ?_) (some 103) 43 (by kernel_rfl) rfl rfl (by assumption) (.inl ⟨by rfl, fun w' hw => ?_⟩) ?_
          rotate_left
          · obtain ⟨q1, q2, q3⟩ := hw; go_simp <;> with_reducible rfl
          try simp only [Act.put, List.setIfInBounds_toArray, List.set_cons_zero, List.set_cons_succ]
          refine rgs_d (by kernel_rfl) ?_
          have HT10 := Lib.hid (HT8.out.below hb18)
          clear hS hS1 hS2 hSx HB6 HB8 HBH HT8 HT9 HSB HSM HQU hb08 hb17 hb18 hq0
          go_upto_region 14 with fail
          by_cases hkn : k < n
          · have hkl : k < xs.length := by rw [HXL.out]; exact hkn
            obtain ⟨bl, off, hA, hbl, _, hz⟩ := rints_at (HX.out.below HT10.out.mem (Nat.le_refl _)) k hkn
            subst hA
            obtain ⟨x, hx⟩ : ∃ x, xs[k] = x := ⟨_, rfl⟩
            rw [hx] at hz
            obtain ⟨yes, hyes⟩ : ∃ y, decide (x % 7 ≤ 1) = y := ⟨_, rfl⟩
            obtain ⟨no, hno⟩ : ∃ y, decide (x % 7 = 2 ∨ x % 7 = 3) = y := ⟨_, rfl⟩
            have HO := Lib.hid (fun (W : World) => show Calls Try.prog 18 #[.int .i64 x] W fun e w' => ∃ o, e = .returned (ocV o) ∧ Below W.heap.size W w' ∧ oYes o = yes ∧ oNo o = no from hyes ▸ hno ▸ outcome_any x W)
            obtain ⟨z, P, S', hs', hf1, hf2, hf3, hf4⟩ := twin_feed (w0 := w) (g := g) (h := h) HSN.out HF.out (by omega) hgh hgw yes no
            have HF1 := Lib.hid hf1
            have HF2 := Lib.hid hf2
            have HF3 := Lib.hid hf3
            have HF4 := Lib.hid hf4
            have HS' := Lib.hid hs'
            have HZ := Lib.hid (fun (W : World) (hb : Below w.heap.size w W) => ((hb.cell (p := ⟨bl, off + k, none⟩) hbl).trans ((HT10.out.mem.cell (p := ⟨bl, off + k, none⟩) hbl).symm.trans hz) : W.cell? ⟨bl, off + k, none⟩ = some (.int .i64 x)))
            have dz : (z != z) = false := by simp
            have d0 : decide (k < n) = true := by simpa using hkn
            have d1 : decide ((k : Int) < (n : Int)) = true := by simp; omega
            have HT11 := Lib.hid (HT10.out.below (below_drew (Below.refl y2.heap.size y2)))
            have hS : y2.drew.cell? ⟨bl, off + k, none⟩ = some (.int .i64 x) ∧ True ∧ True := ⟨HZ.out _ HT11.out.mem, trivial, trivial⟩
            clear hx hyes hno hf1 hf2 hf3 hf4 hs' hz
            refine rgs_start (fun w' => w'.cell? ⟨bl, off + k, none⟩ = some (.int .i64 x) ∧ True ∧ True) (by kernel_rfl) ?_
            refine rgs_t (v := ?_) (some 104) 0 (by kernel_rfl) rfl rfl (by assumption) (.inl ⟨by rfl, fun w' hw => ?_⟩) ?_
            rotate_left
            · obtain ⟨q1, q2, q3⟩ := hw; go_simp <;> with_reducible rfl
            try simp only [Act.put, List.setIfInBounds_toArray, List.set_cons_zero, List.set_cons_succ]
            refine rgs_t (v := ?_) (some 105) 1 (by kernel_rfl) rfl rfl (by assumption) (.inl ⟨by rfl, fun w' hw => ?_⟩) ?_
            rotate_left
            · obtain ⟨q1, q2, q3⟩ := hw; go_simp <;> with_reducible rfl
            try simp only [Act.put, List.setIfInBounds_toArray, List.set_cons_zero, List.set_cons_succ]
            refine rgs_t (v := ?_) (some 106) 2 (by kernel_rfl) rfl rfl (by assumption) (.inl ⟨by rfl, fun w' hw => ?_⟩) ?_
            rotate_left
            · obtain ⟨q1, q2, q3⟩ := hw; go_simp <;> with_reducible rfl
            try simp only [Act.put, List.setIfInBounds_toArray, List.set_cons_zero, List.set_cons_succ]
            refine rgs_t (v := ?_) (some 107) 3 (by kernel_rfl) rfl rfl (by assumption) (.inl ⟨by rfl, fun w' hw => ?_⟩) ?_
            rotate_left
            · obtain ⟨q1, q2, q3⟩ := hw; go_simp <;> with_reducible rfl
            try simp only [Act.put, List.setIfInBounds_toArray, List.set_cons_zero, List.set_cons_succ]
            refine rgs_t (v := ?_) (some 108) 4 (by kernel_rfl) rfl rfl (by assumption) (.inl ⟨by rfl, fun w' hw => ?_⟩) ?_
            rotate_left
            · obtain ⟨q1, q2, q3⟩ := hw; go_simp <;> with_reducible rfl
            try simp only [Act.put, List.setIfInBounds_toArray, List.set_cons_zero, List.set_cons_succ]
            refine rgs_t (v := ?_) (some 109) 5 (by kernel_rfl) rfl rfl (by assumption) (.inl ⟨by rfl, fun w' hw => ?_⟩) ?_
            rotate_left
            · obtain ⟨q1, q2, q3⟩ := hw; go_simp <;> with_reducible rfl
            try simp only [Act.put, List.setIfInBounds_toArray, List.set_cons_zero, List.set_cons_succ]
            refine rgs_t (v := ?_) (some 110) 6 (by kernel_rfl) rfl rfl (by assumption) (.inl ⟨by rfl, fun w' hw => ?_⟩) ?_
            rotate_left
            · obtain ⟨q1, q2, q3⟩ := hw; go_simp <;> with_reducible rfl
            try simp only [Act.put, List.setIfInBounds_toArray, List.set_cons_zero, List.set_cons_succ]
            refine rgs_t (v := ?_) (some 111) 7 (by kernel_rfl) rfl rfl (by assumption) (.inl ⟨by rfl, fun w' hw => ?_⟩) ?_
            rotate_left
            · obtain ⟨q1, q2, q3⟩ := hw; go_simp <;> with_reducible rfl
            try simp only [Act.put, List.setIfInBounds_toArray, List.set_cons_zero, List.set_cons_succ]
            refine rgs_t (v := ?_) (some 112) 8 (by kernel_rfl) rfl rfl (by assumption) (.inl ⟨by rfl, fun w' hw => ?_⟩) ?_
            rotate_left
            · obtain ⟨q1, q2, q3⟩ := hw; go_simp <;> with_reducible rfl
            try simp only [Act.put, List.setIfInBounds_toArray, List.set_cons_zero, List.set_cons_succ]
            refine rgs_t (v := ?_) (some 113) 9 (by kernel_rfl) rfl rfl (by assumption) (.inl ⟨by rfl, fun w' hw => ?_⟩) ?_
            rotate_left
            · obtain ⟨q1, q2, q3⟩ := hw; go_simp <;> with_reducible rfl
            try simp only [Act.put, List.setIfInBounds_toArray, List.set_cons_zero, List.set_cons_succ]
            refine rgs_t (v := ?_) (some 116) 12 (by kernel_rfl) rfl rfl (by assumption) (.inl ⟨by rfl, fun w' hw => ?_⟩) ?_
            rotate_left
            · obtain ⟨q1, q2, q3⟩ := hw; go_simp <;> with_reducible rfl
            try simp only [Act.put, List.setIfInBounds_toArray, List.set_cons_zero, List.set_cons_succ]
            refine rgs_t (v := ?_) (some 117) 13 (by kernel_rfl) rfl rfl (by assumption) (.inl ⟨by rfl, fun w' hw => ?_⟩) ?_
            rotate_left
            · obtain ⟨q1, q2, q3⟩ := hw; go_simp <;> with_reducible rfl
            try simp only [Act.put, List.setIfInBounds_toArray, List.set_cons_zero, List.set_cons_succ]
            refine rgs_t (v := ?_) (some 118) 14 (by kernel_rfl) rfl rfl (by assumption) (.inl ⟨by rfl, fun w' hw => ?_⟩) ?_
            rotate_left
            · obtain ⟨q1, q2, q3⟩ := hw; go_simp <;> with_reducible rfl
            try simp only [Act.put, List.setIfInBounds_toArray, List.set_cons_zero, List.set_cons_succ]
            refine rgs_t (v := ?_) (some 119) 15 (by kernel_rfl) rfl rfl (by assumption) (.inl ⟨by rfl, fun w' hw => ?_⟩) ?_
            rotate_left
            · obtain ⟨q1, q2, q3⟩ := hw; go_simp <;> with_reducible rfl
            try simp only [Act.put, List.setIfInBounds_toArray, List.set_cons_zero, List.set_cons_succ]
            refine rgs_t (v := ?_) (some 120) 16 (by kernel_rfl) rfl rfl (by assumption) (.inl ⟨by rfl, fun w' hw => ?_⟩) ?_
            rotate_left
            · obtain ⟨q1, q2, q3⟩ := hw; go_simp <;> with_reducible rfl
            try simp only [Act.put, List.setIfInBounds_toArray, List.set_cons_zero, List.set_cons_succ]
            refine rgs_c 10 (by kernel_rfl) rfl (by rfl) (fun K hK => ?_)
            go_simp
            refine (HO.out _).mono ?_
            rintro e x1 ⟨o1, rfl, hb1, ho1, ho2⟩
            have HT12 := Lib.hid (HT11.out.below hb1)
            have HO1 := Lib.hid (And.intro ho1 ho2)
            have hS1 : x1.cell? ⟨bl, off + k, none⟩ = some (.int .i64 x) ∧ True ∧ True := ⟨HZ.out _ HT12.out.mem, trivial, trivial⟩
            clear ho1 ho2 hb1
            refine hK _ _ hS1 ?_
            clear hK K
            try simp only [Act.put, List.setIfInBounds_toArray, List.set_cons_zero, List.set_cons_succ]
            refine rgs_c 11 (by kernel_rfl) rfl (by rfl) (fun K hK => ?_)
            go_simp
            refine (HF1.out _ o1 HO1.out.1 HO1.out.2 HT12.out).mono ?_
            rintro e x2 ⟨rfl, hp2⟩
            have HP2 := Lib.hid hp2
            have hS2 : x2.cell? ⟨bl, off + k, none⟩ = some (.int .i64 x) ∧ True ∧ True := ⟨HZ.out _ (HF3.out _ HP2.out), trivial, trivial⟩
            clear hp2
            refine hK _ _ hS2 ?_
            clear hK K
            try simp only [Act.put, List.setIfInBounds_toArray, List.set_cons_zero, List.set_cons_succ]
            refine rgs_c 17 (by kernel_rfl) rfl (by rfl) (fun K hK => ?_)
            go_simp
            refine (HO.out _).mono ?_
            rintro e x3 ⟨o3, rfl, hb3, ho1, ho2⟩
            have HP3 := Lib.hid (HF4.out _ _ HP2.out hb3)
            have HO3 := Lib.hid (And.intro ho1 ho2)
            have hS3 : x3.cell? ⟨bl, off + k, none⟩ = some (.int .i64 x) ∧ True ∧ True := ⟨HZ.out _ (HF3.out _ HP3.out), trivial, trivial⟩
            clear ho1 ho2 hb3
            refine hK _ _ hS3 ?_
            clear hK K
            try simp only [Act.put, List.setIfInBounds_toArray, List.set_cons_zero, List.set_cons_succ]
            refine rgs_c 18 (by kernel_rfl) rfl (by rfl) (fun K hK => ?_)
            go_simp
            refine (HF2.out _ o3 HO3.out.1 HO3.out.2 HP3.out).mono ?_
            rintro e x4 ⟨rfl, ht4⟩
            have HT14 := Lib.hid ht4
            have hS4 : x4.cell? ⟨bl, off + k, none⟩ = some (.int .i64 x) ∧ True ∧ True := ⟨HZ.out _ HT14.out.mem, trivial, trivial⟩
            clear ht4
            refine hK _ _ hS4 ?_
            clear hK K
            try simp only [Act.put, List.setIfInBounds_toArray, List.set_cons_zero, List.set_cons_succ]
            refine rgs_t (v := ?_) (some 123) 19 (by kernel_rfl) rfl rfl (by assumption) (.inl ⟨by rfl, fun w' hw => ?_⟩) ?_
            rotate_left
            · obtain ⟨q1, q2, q3⟩ := hw; go_simp <;> with_reducible rfl
            try simp only [Act.put, List.setIfInBounds_toArray, List.set_cons_zero, List.set_cons_succ]
            refine rgs_t (v := ?_) (some 124) 20 (by kernel_rfl) rfl rfl (by assumption) (.inl ⟨by rfl, fun w' hw => ?_⟩) ?_
            rotate_left
            · obtain ⟨q1, q2, q3⟩ := hw; go_simp <;> with_reducible rfl
            try simp only [Act.put, List.setIfInBounds_toArray, List.set_cons_zero, List.set_cons_succ]
            refine rgs_d (by kernel_rfl) ?_
            go_wp2_with fail
            go_roundw
            case rel => exact ⟨k + 1, S', by go_num, by omega, by omega, HS'.out, HT14.out⟩
            case measure => simp [intOf]; omega
          · obtain rfl : k = n := by omega
            go_quiet (fail)
            go_wp2_with fail
            go_roundw
            case rel => exact ⟨k + 1, S, by go_num, by omega, by omega, ⟨HSN.out.1, by have := HSN.out.2.1; omega, HSN.out.2.2⟩, HT10.out.below (below_drewN (Below.refl y2.heap.size y2) _)⟩
            case measure => first | (simp [intOf]; done) | (simp [intOf]; omega)
        · -- alive
          have hlv : S.ks.length < S.N := by have := HL.out; simpa [nxL] using this
          have HSP := Lib.hid (show Calls Try.prog 13 #[mptr g] W7 fun e w' => e = .returned (.tuple #[.slice none 0 0, .bool false]) ∧ Below W7.heap.size W7 w' from by
            obtain ⟨row, t1, t2, t3⟩ := HT7.out
            exact spans_no S g W7 t1 HSN.out.1.1 hlv)
          clear hlv
          go_wp2_with fail
          refine HSP.out.mono ?_
          rintro e w8 ⟨rfl, hb8⟩
          clear HSP
          have HB6 := Lib.hid (HB6.out.below hb8)
          have HB8 := Lib.hid (HB8.out.below hb8)
          have HT8 := Lib.hid (HT7.out.below hb8)
          clear hb8 HT7
          obtain ⟨row, hma, ⟨v, hv1, hv2, hv3⟩, hbl⟩ := HT8.out
          obtain ⟨A5, c5, hv, _, hR5⟩ := own_form hv2
          subst hv
          obtain ⟨l5, hl5⟩ : ∃ l, S.ks.length = l := ⟨_, rfl⟩
          rw [hl5] at hv3 hR5
          have HBH := Lib.hid hv3
          have HR5 := Lib.hid hR5
          have HL5 := Lib.hid hl5
          clear hma hv1 hv2 hv3 hbl hR5 hl5
          have HT9 := Lib.hid (HT8.out.below (below_drew (Below.refl w8.heap.size w8)))
          have hb08 : Below w8.heap.size w8 w8.drew := below_drew (Below.refl _ _)
          have hS : (∀ i, w8.drew.cell? ⟨b6, i, none⟩ = (#[.int .i64 q1, .int .i64 q2, .int .i64 q3, .int .i64 0, .int .i64 0] : Array Value)[i]?) ∧ (∀ i, w8.drew.cell? ⟨b8, i, none⟩ = (#[.int .i64 q1, .int .i64 q2, .int .i64 q3, .int .i64 0, .int .i64 0] : Array Value)[i]?) ∧ (∀ i, w8.drew.cell? ⟨h, i, none⟩ = (#[.int .i64 S.tb, .int .i64 S.fs, .int .i64 S.N, .int .i64 S.M, .slice A5 l5 c5, .int .i64 S.mode, .int .i64 S.lo, .int .i64 S.hi, .int .i64 S.q] : Array Value)[i]?) := ⟨HB6.out.1, HB8.out.1, HBH.out.1⟩
          go_upto_region 12 with fail
          refine rgs_start (fun w' => (∀ i, w'.cell? ⟨b6, i, none⟩ = (#[.int .i64 q1, .int .i64 q2, .int .i64 q3, .int .i64 0, .int .i64 0] : Array Value)[i]?) ∧ (∀ i, w'.cell? ⟨b8, i, none⟩ = (#[.int .i64 q1, .int .i64 q2, .int .i64 q3, .int .i64 0, .int .i64 0] : Array Value)[i]?) ∧ (∀ i, w'.cell? ⟨h, i, none⟩ = (#[.int .i64 S.tb, .int .i64 S.fs, .int .i64 S.N, .int .i64 S.M, .slice A5 l5 c5, .int .i64 S.mode, .int .i64 S.lo, .int .i64 S.hi, .int .i64 S.q] : Array Value)[i]?)) (by kernel_rfl) ?_
          refine rgs_t (v := ?_) (some 60) 0 (by kernel_rfl) rfl rfl (by assumption) (.inl ⟨by rfl, fun w' hw => ?_⟩) ?_
          rotate_left
          · obtain ⟨q1, q2, q3⟩ := hw; go_simp <;> with_reducible rfl
          try simp only [Act.put, List.setIfInBounds_toArray, List.set_cons_zero, List.set_cons_succ]
          refine rgs_t (v := ?_) (some 61) 1 (by kernel_rfl) rfl rfl (by assumption) (.inl ⟨by rfl, fun w' hw => ?_⟩) ?_
          rotate_left
          · obtain ⟨q1, q2, q3⟩ := hw; go_simp <;> with_reducible rfl
          try simp only [Act.put, List.setIfInBounds_toArray, List.set_cons_zero, List.set_cons_succ]
          refine rgs_t (v := ?_) (some 62) 2 (by kernel_rfl) rfl rfl (by assumption) (.inl ⟨by rfl, fun w' hw => ?_⟩) ?_
          rotate_left
          · obtain ⟨q1, q2, q3⟩ := hw; go_simp <;> with_reducible rfl
          try simp only [Act.put, List.setIfInBounds_toArray, List.set_cons_zero, List.set_cons_succ]
          refine rgs_t (v := ?_) (some 63) 3 (by kernel_rfl) rfl rfl (by assumption) (.inl ⟨by rfl, fun w' hw => ?_⟩) ?_
          rotate_left
          · obtain ⟨q1, q2, q3⟩ := hw; go_simp <;> with_reducible rfl
          try simp only [Act.put, List.setIfInBounds_toArray, List.set_cons_zero, List.set_cons_succ]
          refine rgs_t (v := ?_) (some 64) 4 (by kernel_rfl) rfl rfl (by assumption) (.inl ⟨by rfl, fun w' hw => ?_⟩) ?_
          rotate_left
          · obtain ⟨q1, q2, q3⟩ := hw; go_simp <;> with_reducible rfl
          try simp only [Act.put, List.setIfInBounds_toArray, List.set_cons_zero, List.set_cons_succ]
          refine rgs_t (v := ?_) (some 65) 5 (by kernel_rfl) rfl rfl (by assumption) (.inl ⟨by rfl, fun w' hw => ?_⟩) ?_
          rotate_left
          · obtain ⟨q1, q2, q3⟩ := hw; go_simp <;> with_reducible rfl
          try simp only [Act.put, List.setIfInBounds_toArray, List.set_cons_zero, List.set_cons_succ]
          refine rgs_t (v := ?_) (some 66) 6 (by kernel_rfl) rfl rfl (by assumption) (.inl ⟨by rfl, fun w' hw => ?_⟩) ?_
          rotate_left
          · obtain ⟨q1, q2, q3⟩ := hw; go_simp <;> with_reducible rfl
          try simp only [Act.put, List.setIfInBounds_toArray, List.set_cons_zero, List.set_cons_succ]
          refine rgs_t (v := ?_) (some 67) 7 (by kernel_rfl) rfl rfl (by assumption) (.inl ⟨by rfl, fun w' hw => ?_⟩) ?_
          rotate_left
          · obtain ⟨q1, q2, q3⟩ := hw; go_simp <;> with_reducible rfl
          try simp only [Act.put, List.setIfInBounds_toArray, List.set_cons_zero, List.set_cons_succ]
          refine rgs_t (v := ?_) (some 68) 8 (by kernel_rfl) rfl rfl (by assumption) (.inl ⟨by rfl, fun w' hw => ?_⟩) ?_
          rotate_left
          · obtain ⟨q1, q2, q3⟩ := hw; go_simp <;> with_reducible rfl
          try simp only [Act.put, List.setIfInBounds_toArray, List.set_cons_zero, List.set_cons_succ]
          refine rgs_t (v := ?_) (some 69) 9 (by kernel_rfl) rfl rfl (by assumption) (.inl ⟨by rfl, fun w' hw => ?_⟩) ?_
          rotate_left
          · obtain ⟨q1, q2, q3⟩ := hw; go_simp <;> with_reducible rfl
          try simp only [Act.put, List.setIfInBounds_toArray, List.set_cons_zero, List.set_cons_succ]
          refine rgs_t (v := ?_) (some 70) 10 (by kernel_rfl) rfl rfl (by assumption) (.inl ⟨by rfl, fun w' hw => ?_⟩) ?_
          rotate_left
          · obtain ⟨q1, q2, q3⟩ := hw; go_simp <;> with_reducible rfl
          try simp only [Act.put, List.setIfInBounds_toArray, List.set_cons_zero, List.set_cons_succ]
          refine rgs_t (v := ?_) (some 71) 11 (by kernel_rfl) rfl rfl (by assumption) (.inl ⟨by rfl, fun w' hw => ?_⟩) ?_
          rotate_left
          · obtain ⟨q1, q2, q3⟩ := hw; go_simp <;> with_reducible rfl
          try simp only [Act.put, List.setIfInBounds_toArray, List.set_cons_zero, List.set_cons_succ]
          refine rgs_t (v := ?_) (some 72) 12 (by kernel_rfl) rfl rfl (by assumption) (.inl ⟨by rfl, fun w' hw => ?_⟩) ?_
          rotate_left
          · obtain ⟨q1, q2, q3⟩ := hw; go_simp <;> with_reducible rfl
          try simp only [Act.put, List.setIfInBounds_toArray, List.set_cons_zero, List.set_cons_succ]
          refine rgs_t (v := ?_) (some 73) 13 (by kernel_rfl) rfl rfl (by assumption) (.inl ⟨by rfl, fun w' hw => ?_⟩) ?_
          rotate_left
          · obtain ⟨q1, q2, q3⟩ := hw; go_simp <;> with_reducible rfl
          try simp only [Act.put, List.setIfInBounds_toArray, List.set_cons_zero, List.set_cons_succ]
          refine rgs_t (v := ?_) (some 74) 14 (by kernel_rfl) rfl rfl (by assumption) (.inl ⟨by rfl, fun w' hw => ?_⟩) ?_
          rotate_left
          · obtain ⟨q1, q2, q3⟩ := hw; go_simp <;> with_reducible rfl
          try simp only [Act.put, List.setIfInBounds_toArray, List.set_cons_zero, List.set_cons_succ]
          refine rgs_t (v := ?_) (some 76) 16 (by kernel_rfl) rfl rfl (by assumption) (.inl ⟨by rfl, fun w' hw => ?_⟩) ?_
          rotate_left
          · obtain ⟨q1, q2, q3⟩ := hw; go_simp <;> with_reducible rfl
          try simp only [Act.put, List.setIfInBounds_toArray, List.set_cons_zero, List.set_cons_succ]
          refine rgs_t (v := ?_) (some 77) 17 (by kernel_rfl) rfl rfl (by assumption) (.inl ⟨by rfl, fun w' hw => ?_⟩) ?_
          rotate_left
          · obtain ⟨q1, q2, q3⟩ := hw; go_simp <;> with_reducible rfl
          try simp only [Act.put, List.setIfInBounds_toArray, List.set_cons_zero, List.set_cons_succ]
          refine rgs_t (v := ?_) (some 78) 18 (by kernel_rfl) rfl rfl (by assumption) (.inl ⟨by rfl, fun w' hw => ?_⟩) ?_
          rotate_left
          · obtain ⟨q1, q2, q3⟩ := hw; go_simp <;> with_reducible rfl
          try simp only [Act.put, List.setIfInBounds_toArray, List.set_cons_zero, List.set_cons_succ]
          refine rgs_t (v := ?_) (some 79) 19 (by kernel_rfl) rfl rfl (by assumption) (.inl ⟨by rfl, fun w' hw => ?_⟩) ?_
          rotate_left
          · obtain ⟨q1, q2, q3⟩ := hw; go_simp <;> with_reducible rfl
          try simp only [Act.put, List.setIfInBounds_toArray, List.set_cons_zero, List.set_cons_succ]
          refine rgs_c 15 (by kernel_rfl) rfl (by rfl) (fun K hK => ?_)
          go_simp
          refine (HQU.out _ HT9.out).mono ?_
          rintro e xq ⟨rfl, rfl⟩
          refine hK _ _ hS ?_
          clear hK K
          try simp only [Act.put, List.setIfInBounds_toArray, List.set_cons_zero, List.set_cons_succ]
          refine rgs_t (v := ?_) (some 80) 20 (by kernel_rfl) rfl rfl (by assumption) (.inl ⟨by rfl, fun w' hw => ?_⟩) ?_
          rotate_left
          · obtain ⟨q1, q2, q3⟩ := hw; go_simp <;> with_reducible rfl
          try simp only [Act.put, List.setIfInBounds_toArray, List.set_cons_zero, List.set_cons_succ]
          refine rgs_t (v := ?_) (some 81) 21 (by kernel_rfl) rfl rfl (by assumption) (.inl ⟨by rfl, fun w' hw => ?_⟩) ?_
          rotate_left
          · obtain ⟨q1, q2, q3⟩ := hw; go_simp <;> with_reducible rfl
          try simp only [Act.put, List.setIfInBounds_toArray, List.set_cons_zero, List.set_cons_succ]
          refine rgs_t (v := ?_) (some 82) 22 (by kernel_rfl) rfl rfl (by assumption) (.inl ⟨by rfl, fun w' hw => ?_⟩) ?_
          rotate_left
          · obtain ⟨q1, q2, q3⟩ := hw; go_simp <;> with_reducible rfl
          try simp only [Act.put, List.setIfInBounds_toArray, List.set_cons_zero, List.set_cons_succ]
          refine rgs_t (v := ?_) (some 83) 23 (by kernel_rfl) rfl rfl (by assumption) (.inl ⟨by rfl, fun w' hw => ?_⟩) ?_
          rotate_left
          · obtain ⟨q1, q2, q3⟩ := hw; go_simp <;> with_reducible rfl
          try simp only [Act.put, List.setIfInBounds_toArray, List.set_cons_zero, List.set_cons_succ]
          refine rgs_t (v := ?_) (some 84) 24 (by kernel_rfl) rfl rfl (by assumption) (.inl ⟨by rfl, fun w' hw => ?_⟩) ?_
          rotate_left
          · obtain ⟨q1, q2, q3⟩ := hw; go_simp <;> with_reducible rfl
          try simp only [Act.put, List.setIfInBounds_toArray, List.set_cons_zero, List.set_cons_succ]
          refine rgs_t (some 85) 25 (by kernel_rfl) rfl rfl (by assumption) (.inr ⟨by rfl, rfl⟩) ?_
          try simp only [Act.put, List.setIfInBounds_toArray, List.set_cons_zero, List.set_cons_succ]
          refine rgs_t (some 86) 26 (by kernel_rfl) rfl rfl (by assumption) (.inr ⟨by rfl, rfl⟩) ?_
          try simp only [Act.put, List.setIfInBounds_toArray, List.set_cons_zero, List.set_cons_succ]
          refine rgs_t (some 87) 27 (by kernel_rfl) rfl rfl (by assumption) (.inr ⟨by rfl, rfl⟩) ?_
          try simp only [Act.put, List.setIfInBounds_toArray, List.set_cons_zero, List.set_cons_succ]
          refine rgs_t (some 88) 28 (by kernel_rfl) rfl rfl (by assumption) (.inr ⟨by rfl, rfl⟩) ?_
          try simp only [Act.put, List.setIfInBounds_toArray, List.set_cons_zero, List.set_cons_succ]
          refine rgs_t (some 89) 29 (by kernel_rfl) rfl rfl (by assumption) (.inr ⟨by rfl, rfl⟩) ?_
          try simp only [Act.put, List.setIfInBounds_toArray, List.set_cons_zero, List.set_cons_succ]
          refine rgs_t (some 90) 30 (by kernel_rfl) rfl rfl (by assumption) (.inr ⟨by rfl, rfl⟩) ?_
          try simp only [Act.put, List.setIfInBounds_toArray, List.set_cons_zero, List.set_cons_succ]
          refine rgs_t (some 91) 31 (by kernel_rfl) rfl rfl (by assumption) (.inr ⟨by rfl, rfl⟩) ?_
          try simp only [Act.put, List.setIfInBounds_toArray, List.set_cons_zero, List.set_cons_succ]
          refine rgs_t (some 92) 32 (by kernel_rfl) rfl rfl (by assumption) (.inr ⟨by rfl, rfl⟩) ?_
          try simp only [Act.put, List.setIfInBounds_toArray, List.set_cons_zero, List.set_cons_succ]
          refine rgs_t (v := ?_) (some 93) 33 (by kernel_rfl) rfl rfl (by assumption) (.inl ⟨by rfl, fun w' hw => ?_⟩) ?_
          rotate_left
          · obtain ⟨q1, q2, q3⟩ := hw; go_simp <;> with_reducible rfl
          try simp only [Act.put, List.setIfInBounds_toArray, List.set_cons_zero, List.set_cons_succ]
          refine rgs_t (v := ?_) (some 94) 34 (by kernel_rfl) rfl rfl (by assumption) (.inl ⟨by rfl, fun w' hw => ?_⟩) ?_
          rotate_left
          · obtain ⟨q1, q2, q3⟩ := hw; go_simp <;> with_reducible rfl
          try simp only [Act.put, List.setIfInBounds_toArray, List.set_cons_zero, List.set_cons_succ]
          refine rgs_t (v := ?_) (some 95) 35 (by kernel_rfl) rfl rfl (by assumption) (.inl ⟨by rfl, fun w' hw => ?_⟩) ?_
          rotate_left
          · obtain ⟨q1, q2, q3⟩ := hw; go_simp <;> with_reducible rfl
          try simp only [Act.put, List.setIfInBounds_toArray, List.set_cons_zero, List.set_cons_succ]
          refine rgs_t (v := ?_) (some 96) 36 (by kernel_rfl) rfl rfl (by assumption) (.inl ⟨by rfl, fun w' hw => ?_⟩) ?_
          rotate_left
          · obtain ⟨q1, q2, q3⟩ := hw; go_simp <;> with_reducible rfl
          try simp only [Act.put, List.setIfInBounds_toArray, List.set_cons_zero, List.set_cons_succ]
          refine rgs_t (v := ?_) (some 97) 37 (by kernel_rfl) rfl rfl (by assumption) (.inl ⟨by rfl, fun w' hw => ?_⟩) ?_
          rotate_left
          · obtain ⟨q1, q2, q3⟩ := hw; go_simp <;> with_reducible rfl
          try simp only [Act.put, List.setIfInBounds_toArray, List.set_cons_zero, List.set_cons_succ]
          refine rgs_t (v := ?_) (some 98) 38 (by kernel_rfl) rfl rfl (by assumption) (.inl ⟨by rfl, fun w' hw => ?_⟩) ?_
          rotate_left
          · obtain ⟨q1, q2, q3⟩ := hw; go_simp <;> with_reducible rfl
          try simp only [Act.put, List.setIfInBounds_toArray, List.set_cons_zero, List.set_cons_succ]
          refine rgs_t (v := ?_) (some 99) 39 (by kernel_rfl) rfl rfl (by assumption) (.inl ⟨by rfl, fun w' hw => ?_⟩) ?_
          rotate_left
          · obtain ⟨q1, q2, q3⟩ := hw; go_simp <;> with_reducible rfl
          try simp only [Act.put, List.setIfInBounds_toArray, List.set_cons_zero, List.set_cons_succ]
          refine rgs_t (v := ?_) (some 100) 40 (by kernel_rfl) rfl rfl (by assumption) (.inl ⟨by rfl, fun w' hw => ?_⟩) ?_
          rotate_left
          · obtain ⟨q1, q2, q3⟩ := hw; go_simp <;> with_reducible rfl
          try simp only [Act.put, List.setIfInBounds_toArray, List.set_cons_zero, List.set_cons_succ]
          refine rgs_t (v := ?_) (some 101) 41 (by kernel_rfl) rfl rfl (by assumption) (.inl ⟨by rfl, fun w' hw => ?_⟩) ?_
          rotate_left
          · obtain ⟨q1, q2, q3⟩ := hw; go_simp <;> with_reducible rfl
          try simp only [Act.put, List.setIfInBounds_toArray, List.set_cons_zero, List.set_cons_succ]
          refine rgs_t (v := ?_) (some 102) 42 (by kernel_rfl) rfl rfl (by assumption) (.inl ⟨by rfl, fun w' hw => ?_⟩) ?_
          rotate_left
          · obtain ⟨q1, q2, q3⟩ := hw; go_simp <;> with_reducible rfl
          try simp only [Act.put, List.setIfInBounds_toArray, List.set_cons_zero, List.set_cons_succ]
          refine rgs_t (v := ?_) (some 103) 43 (by kernel_rfl) rfl rfl (by assumption) (.inl ⟨by rfl, fun w' hw => ?_⟩) ?_
          rotate_left
          · obtain ⟨q1, q2, q3⟩ := hw; go_simp <;> with_reducible rfl
          try simp only [Act.put, List.setIfInBounds_toArray, List.set_cons_zero, List.set_cons_succ]
          refine rgs_d (by kernel_rfl) ?_
          have HT10 := Lib.hid (HT8.out.below hb08)
          clear hS HB6 HB8 HBH HT8 HT9 HQU hb08 hq0
          obtain ⟨WX, hWX⟩ : ∃ W, w8.drew = W := ⟨_, rfl⟩
          rw [hWX] at HT10 ⊢
          clear hWX
          go_upto_region 14 with fail
          by_cases hkn : k < n
          · have hkl : k < xs.length := by rw [HXL.out]; exact hkn
            obtain ⟨bl, off, hA, hbl, _, hz⟩ := rints_at (HX.out.below HT10.out.mem (Nat.le_refl _)) k hkn
            subst hA
            obtain ⟨x, hx⟩ : ∃ x, xs[k] = x := ⟨_, rfl⟩
            rw [hx] at hz
            obtain ⟨yes, hyes⟩ : ∃ y, decide (x % 7 ≤ 1) = y := ⟨_, rfl⟩
            obtain ⟨no, hno⟩ : ∃ y, decide (x % 7 = 2 ∨ x % 7 = 3) = y := ⟨_, rfl⟩
            have HO := Lib.hid (fun (W : World) => show Calls Try.prog 18 #[.int .i64 x] W fun e w' => ∃ o, e = .returned (ocV o) ∧ Below W.heap.size W w' ∧ oYes o = yes ∧ oNo o = no from hyes ▸ hno ▸ outcome_any x W)
            obtain ⟨z, P, S', hs', hf1, hf2, hf3, hf4⟩ := twin_feed (w0 := w) (g := g) (h := h) HSN.out HF.out (by omega) hgh hgw yes no
            have HF1 := Lib.hid hf1
            have HF2 := Lib.hid hf2
            have HF3 := Lib.hid hf3
            have HF4 := Lib.hid hf4
            have HS' := Lib.hid hs'
            have HZ := Lib.hid (fun (W : World) (hb : Below w.heap.size w W) => ((hb.cell (p := ⟨bl, off + k, none⟩) hbl).trans ((HT10.out.mem.cell (p := ⟨bl, off + k, none⟩) hbl).symm.trans hz) : W.cell? ⟨bl, off + k, none⟩ = some (.int .i64 x)))
            have dz : (z != z) = false := by simp
            have d0 : decide (k < n) = true := by simpa using hkn
            have d1 : decide ((k : Int) < (n : Int)) = true := by simp; omega
            have HT11 := Lib.hid (HT10.out.below (below_drew (Below.refl WX.heap.size WX)))
            have hS : WX.drew.cell? ⟨bl, off + k, none⟩ = some (.int .i64 x) ∧ True ∧ True := ⟨HZ.out _ HT11.out.mem, trivial, trivial⟩
            clear hx hyes hno hf1 hf2 hf3 hf4 hs' hz
            refine rgs_start (fun w' => w'.cell? ⟨bl, off + k, none⟩ = some (.int .i64 x) ∧ True ∧ True) (by kernel_rfl) ?_
            refine rgs_t (v := ?_) (some 104) 0 (by kernel_rfl) rfl rfl (by assumption) (.inl ⟨by rfl, fun w' hw => ?_⟩) ?_
            rotate_left
            · obtain ⟨q1, q2, q3⟩ := hw; go_simp <;> with_reducible rfl
            try simp only [Act.put, List.setIfInBounds_toArray, List.set_cons_zero, List.set_cons_succ]
            refine rgs_t (v := ?_) (some 105) 1 (by kernel_rfl) rfl rfl (by assumption) (.inl ⟨by rfl, fun w' hw => ?_⟩) ?_
            rotate_left
            · obtain ⟨q1, q2, q3⟩ := hw; go_simp <;> with_reducible rfl
            try simp only [Act.put, List.setIfInBounds_toArray, List.set_cons_zero, List.set_cons_succ]
            refine rgs_t (v := ?_) (some 106) 2 (by kernel_rfl) rfl rfl (by assumption) (.inl ⟨by rfl, fun w' hw => ?_⟩) ?_
            rotate_left
            · obtain ⟨q1, q2, q3⟩ := hw; go_simp <;> with_reducible rfl
            try simp only [Act.put, List.setIfInBounds_toArray, List.set_cons_zero, List.set_cons_succ]
            refine rgs_t (v := ?_) (some 107) 3 (by kernel_rfl) rfl rfl (by assumption) (.inl ⟨by rfl, fun w' hw => ?_⟩) ?_
            rotate_left
            · obtain ⟨q1, q2, q3⟩ := hw; go_simp <;> with_reducible rfl
            try simp only [Act.put, List.setIfInBounds_toArray, List.set_cons_zero, List.set_cons_succ]
            refine rgs_t (v := ?_) (some 108) 4 (by kernel_rfl) rfl rfl (by assumption) (.inl ⟨by rfl, fun w' hw => ?_⟩) ?_
            rotate_left
            · obtain ⟨q1, q2, q3⟩ := hw; go_simp <;> with_reducible rfl
            try simp only [Act.put, List.setIfInBounds_toArray, List.set_cons_zero, List.set_cons_succ]
            refine rgs_t (v := ?_) (some 109) 5 (by kernel_rfl) rfl rfl (by assumption) (.inl ⟨by rfl, fun w' hw => ?_⟩) ?_
            rotate_left
            · obtain ⟨q1, q2, q3⟩ := hw; go_simp <;> with_reducible rfl
            try simp only [Act.put, List.setIfInBounds_toArray, List.set_cons_zero, List.set_cons_succ]
            refine rgs_t (v := ?_) (some 110) 6 (by kernel_rfl) rfl rfl (by assumption) (.inl ⟨by rfl, fun w' hw => ?_⟩) ?_
            rotate_left
            · obtain ⟨q1, q2, q3⟩ := hw; go_simp <;> with_reducible rfl
            try simp only [Act.put, List.setIfInBounds_toArray, List.set_cons_zero, List.set_cons_succ]
            refine rgs_t (v := ?_) (some 111) 7 (by kernel_rfl) rfl rfl (by assumption) (.inl ⟨by rfl, fun w' hw => ?_⟩) ?_
            rotate_left
            · obtain ⟨q1, q2, q3⟩ := hw; go_simp <;> with_reducible rfl
            try simp only [Act.put, List.setIfInBounds_toArray, List.set_cons_zero, List.set_cons_succ]
            refine rgs_t (v := ?_) (some 112) 8 (by kernel_rfl) rfl rfl (by assumption) (.inl ⟨by rfl, fun w' hw => ?_⟩) ?_
            rotate_left
            · obtain ⟨q1, q2, q3⟩ := hw; go_simp <;> with_reducible rfl
            try simp only [Act.put, List.setIfInBounds_toArray, List.set_cons_zero, List.set_cons_succ]
            refine rgs_t (v := ?_) (some 113) 9 (by kernel_rfl) rfl rfl (by assumption) (.inl ⟨by rfl, fun w' hw => ?_⟩) ?_
            rotate_left
            · obtain ⟨q1, q2, q3⟩ := hw; go_simp <;> with_reducible rfl
            try simp only [Act.put, List.setIfInBounds_toArray, List.set_cons_zero, List.set_cons_succ]
            refine rgs_t (v := ?_) (some 116) 12 (by kernel_rfl) rfl rfl (by assumption) (.inl ⟨by rfl, fun w' hw => ?_⟩) ?_
            rotate_left
            · obtain ⟨q1, q2, q3⟩ := hw; go_simp <;> with_reducible rfl
            try simp only [Act.put, List.setIfInBounds_toArray, List.set_cons_zero, List.set_cons_succ]
            refine rgs_t (v := ?_) (some 117) 13 (by kernel_rfl) rfl rfl (by assumption) (.inl ⟨by rfl, fun w' hw => ?_⟩) ?_
            rotate_left
            · obtain ⟨q1, q2, q3⟩ := hw; go_simp <;> with_reducible rfl
            try simp only [Act.put, List.setIfInBounds_toArray, List.set_cons_zero, List.set_cons_succ]
            refine rgs_t (v := ?_) (some 118) 14 (by kernel_rfl) rfl rfl (by assumption) (.inl ⟨by rfl, fun w' hw => ?_⟩) ?_
            rotate_left
            · obtain ⟨q1, q2, q3⟩ := hw; go_simp <;> with_reducible rfl
            try simp only [Act.put, List.setIfInBounds_toArray, List.set_cons_zero, List.set_cons_succ]
            refine rgs_t (v := ?_) (some 119) 15 (by kernel_rfl) rfl rfl (by assumption) (.inl ⟨by rfl, fun w' hw => ?_⟩) ?_
            rotate_left
            · obtain ⟨q1, q2, q3⟩ := hw; go_simp <;> with_reducible rfl
            try simp only [Act.put, List.setIfInBounds_toArray, List.set_cons_zero, List.set_cons_succ]
            refine rgs_t (v := ?_) (some 120) 16 (by kernel_rfl) rfl rfl (by assumption) (.inl ⟨by rfl, fun w' hw => ?_⟩) ?_
            rotate_left
            · obtain ⟨q1, q2, q3⟩ := hw; go_simp <;> with_reducible rfl
            try simp only [Act.put, List.setIfInBounds_toArray, List.set_cons_zero, List.set_cons_succ]
            refine rgs_c 10 (by kernel_rfl) rfl (by rfl) (fun K hK => ?_)
            go_simp
            refine (HO.out _).mono ?_
            rintro e x1 ⟨o1, rfl, hb1, ho1, ho2⟩
            have HT12 := Lib.hid (HT11.out.below hb1)
            have HO1 := Lib.hid (And.intro ho1 ho2)
            have hS1 : x1.cell? ⟨bl, off + k, none⟩ = some (.int .i64 x) ∧ True ∧ True := ⟨HZ.out _ HT12.out.mem, trivial, trivial⟩
            clear ho1 ho2 hb1
            refine hK _ _ hS1 ?_
            clear hK K
            try simp only [Act.put, List.setIfInBounds_toArray, List.set_cons_zero, List.set_cons_succ]
            refine rgs_c 11 (by kernel_rfl) rfl (by rfl) (fun K hK => ?_)
            go_simp
            refine (HF1.out _ o1 HO1.out.1 HO1.out.2 HT12.out).mono ?_
            rintro e x2 ⟨rfl, hp2⟩
            have HP2 := Lib.hid hp2
            have hS2 : x2.cell? ⟨bl, off + k, none⟩ = some (.int .i64 x) ∧ True ∧ True := ⟨HZ.out _ (HF3.out _ HP2.out), trivial, trivial⟩
            clear hp2
            refine hK _ _ hS2 ?_
            clear hK K
            try simp only [Act.put, List.setIfInBounds_toArray, List.set_cons_zero, List.set_cons_succ]
            refine rgs_c 17 (by kernel_rfl) rfl (by rfl) (fun K hK => ?_)
            go_simp
            refine (HO.out _).mono ?_
            rintro e x3 ⟨o3, rfl, hb3, ho1, ho2⟩
            have HP3 := Lib.hid (HF4.out _ _ HP2.out hb3)
            have HO3 := Lib.hid (And.intro ho1 ho2)
            have hS3 : x3.cell? ⟨bl, off + k, none⟩ = some (.int .i64 x) ∧ True ∧ True := ⟨HZ.out _ (HF3.out _ HP3.out), trivial, trivial⟩
            clear ho1 ho2 hb3
            refine hK _ _ hS3 ?_
            clear hK K
            try simp only [Act.put, List.setIfInBounds_toArray, List.set_cons_zero, List.set_cons_succ]
            refine rgs_c 18 (by kernel_rfl) rfl (by rfl) (fun K hK => ?_)
            go_simp
            refine (HF2.out _ o3 HO3.out.1 HO3.out.2 HP3.out).mono ?_
            rintro e x4 ⟨rfl, ht4⟩
            have HT14 := Lib.hid ht4
            have hS4 : x4.cell? ⟨bl, off + k, none⟩ = some (.int .i64 x) ∧ True ∧ True := ⟨HZ.out _ HT14.out.mem, trivial, trivial⟩
            clear ht4
            refine hK _ _ hS4 ?_
            clear hK K
            try simp only [Act.put, List.setIfInBounds_toArray, List.set_cons_zero, List.set_cons_succ]
            refine rgs_t (v := ?_) (some 123) 19 (by kernel_rfl) rfl rfl (by assumption) (.inl ⟨by rfl, fun w' hw => ?_⟩) ?_
            rotate_left
            · obtain ⟨q1, q2, q3⟩ := hw; go_simp <;> with_reducible rfl
            try simp only [Act.put, List.setIfInBounds_toArray, List.set_cons_zero, List.set_cons_succ]
            refine rgs_t (v := ?_) (some 124) 20 (by kernel_rfl) rfl rfl (by assumption) (.inl ⟨by rfl, fun w' hw => ?_⟩) ?_
            rotate_left
            · obtain ⟨q1, q2, q3⟩ := hw; go_simp <;> with_reducible rfl
            try simp only [Act.put, List.setIfInBounds_toArray, List.set_cons_zero, List.set_cons_succ]
            refine rgs_d (by kernel_rfl) ?_
            go_wp2_with fail
            go_roundw
            case rel => exact ⟨k + 1, S', by go_num, by omega, by omega, HS'.out, HT14.out⟩
            case measure => simp [intOf]; omega
          · obtain rfl : k = n := by omega
            go_quiet (fail)
            go_wp2_with fail
            go_roundw
            case rel => exact ⟨k + 1, S, by go_num, by omega, by omega, ⟨HSN.out.1, by have := HSN.out.2.1; omega, HSN.out.2.2⟩, HT10.out.below (below_drewN (Below.refl WX.heap.size WX) _)⟩
            case measure => first | (simp [intOf]; done) | (simp [intOf]; omega)
      · obtain rfl : k = 120 := by omega
        go_wp2_with fail
        refine (awake_any _).mono ?_
        rintro e w5 ⟨rfl, hb5⟩
        have hbw := HT.out.mem
        go_wp2
        go_ret
        exact ⟨rfl, ext_trans hbw hb5⟩
    · go_wp2_with fail
      refine (awake_any _).mono ?_
      rintro e w5 ⟨rfl, hb5⟩
      have hbw := HT.out.mem
      go_wp2
      go_ret
      exact ⟨rfl, ext_trans hbw hb5⟩
end Go.Proofs.Ytdkkfahnkenplaa

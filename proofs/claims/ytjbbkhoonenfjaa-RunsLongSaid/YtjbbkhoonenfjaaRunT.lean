/- Layer 4: contracts of package runs (over int): clip, Slice, Set, Append, Runs, New. -/
import Derived.Test.YtjbbkhoonenfjaaRunS
set_option linter.unusedVariables false
set_option linter.unusedSimpArgs false
namespace Go.Proofs.Ytjbbkhoonenfjaa
open Go.RowKit

def clipL (f c : Int) (n : Nat) : Nat × Nat :=
  if c < 1 ∨ (n : Int) ≤ f then (0, 0) else if f < 0 then (0, (max 0 (min (n : Int) (f + c))).toNat) else if (n : Int) - f < c then (f.toNat, n) else (f.toNat, (f + c).toNat)
theorem clipL_bd (f c : Int) (n : Nat) : (clipL f c n).1 ≤ (clipL f c n).2 ∧ (clipL f c n).2 ≤ n := by
  unfold clipL
  split
  · simp
  · split
    · simp; omega
    · split <;> simp <;> omega
theorem clip_any (f c : Int) (n a b : Nat) (w : World) (hn : n ≤ 1000000) (hf1 : -9223372036854775808 ≤ f) (hf2 : f ≤ 9223372036854775807) (hc1 : -9223372036854775808 ≤ c) (hc2 : c ≤ 9223372036854775807) (h : clipL f c n = (a, b)) :
    Calls Try.prog 36 #[.int .i64 f, .int .i64 c, .int .i64 n] w fun e w' => e = .returned (.tuple #[.int .i64 a, .int .i64 b]) ∧ w = w' := by
  unfold clipL at h
  by_cases h1 : c < 1
  · rw [if_pos (.inl h1)] at h
    simp only [Prod.mk.injEq] at h
    obtain ⟨rfl, rfl⟩ := h
    go_enter Try.func36, Try.ntmps36
    go_wp2
    go_ret2
    exact ⟨rfl, rfl⟩
  · have hg : decide (c < 1) = false := by simp; omega
    have h1' : 1 ≤ c := by omega
    by_cases h2 : (n : Int) ≤ f
    · rw [if_pos (.inr h2)] at h
      simp only [Prod.mk.injEq] at h
      obtain ⟨rfl, rfl⟩ := h
      clear h1
      go_enter Try.func36, Try.ntmps36
      go_wp2
      go_ret2
      exact ⟨rfl, rfl⟩
    · rw [if_neg (by omega)] at h
      have hg2 : decide ((n : Int) ≤ f) = false := by simp; omega
      by_cases h3 : f < 0
      · rw [if_pos h3] at h
        simp only [Prod.mk.injEq] at h
        obtain ⟨rfl, hb⟩ := h
        clear h1 h2
        rcases (show ((n : Int) ≤ f + c ∧ 0 < f + c) ∨ (f + c < n ∧ 0 < f + c) ∨ (f + c ≤ 0) by omega) with ⟨k, k0⟩ | ⟨k1, k2⟩ | k
        · obtain rfl : n = b := by omega
          clear hb
          have k1 : ¬ (f + c < (n : Int)) := by omega
          go_enter Try.func36, Try.ntmps36
          go_wp2
          all_goals
            go_ret2
            first | exact ⟨rfl, rfl⟩ | (have hn0 : n = 0 := (by omega); subst hn0; exact ⟨rfl, rfl⟩)
        · have hb' : f + c = (b : Int) := by omega
          have HB := Lib.hid hb'
          clear hb hb'
          go_enter Try.func36, Try.ntmps36
          go_wp2
          all_goals
            go_ret2
            rw [← HB.out]
            exact ⟨rfl, rfl⟩
        · obtain rfl : 0 = b := by omega
          clear hb
          go_enter Try.func36, Try.ntmps36
          go_wp2
          all_goals
            go_ret2
            exact ⟨rfl, rfl⟩
      · rw [if_neg h3] at h
        have h3' : 0 ≤ f := by omega
        have hg3 : decide (f < 0) = false := by simp; omega
        by_cases h4 : (n : Int) - f < c
        · rw [if_pos h4] at h
          simp only [Prod.mk.injEq] at h
          obtain ⟨ha, rfl⟩ := h
          have ha' : f = (a : Int) := by omega
          have HA := Lib.hid ha'
          clear h1 h2 h3 ha ha'
          go_enter Try.func36, Try.ntmps36
          go_wp2
          all_goals
            go_ret2
            rw [← HA.out]
            exact ⟨rfl, rfl⟩
        · rw [if_neg h4] at h
          simp only [Prod.mk.injEq] at h
          obtain ⟨ha, hb⟩ := h
          have ha' : f = (a : Int) := by omega
          have hb' : f + c = (b : Int) := by omega
          have HA := Lib.hid ha'
          have HB := Lib.hid hb'
          have h4' : c ≤ (n : Int) - f := by omega
          clear h1 h2 h3 h4 ha hb ha' hb'
          go_enter Try.func36, Try.ntmps36
          go_wp2
          all_goals
            go_ret2
            rw [← HA.out, ← HB.out]
            exact ⟨rfl, rfl⟩

theorem Box.two {w w1 : World} {cs ds : Array Value} {e e' : TypeId} (hb : Below ((w.alloc (.cells cs e)).alloc (.cells ds e')).heap.size ((w.alloc (.cells cs e)).alloc (.cells ds e')) w1) : Box w1 w.heap.size cs :=
  (Box.alloc' (Box.alloc_ (w := w) (cs := cs) (e := e)) _).below hb
/-- A list that is returned. -/
def RetL (w : World) (rs : List (Rn Int)) (e : Ending) (w' : World) : Prop := ∃ A n c, e = .returned (lv A n c) ∧ Rd w' w'.heap.size 2 A n (rnCells rs) ∧ Below w.heap.size w w'
theorem retL_of {w w' : World} {v : Value} {base : Nat} {rs : List (Rn Int)} (h : w'.ownsRow base 36 2 v rs.length (rnCells rs)) (hb : Below w.heap.size w w') : RetL w rs (.returned (.agg #[v])) w' := by
  obtain ⟨A, c, rfl, _, hR⟩ := own_form h
  exact ⟨A, _, c, rfl, hR, hb⟩

set_option maxHeartbeats 1000000 in
theorem slice_any (rs : List (Rn Int)) (A : Option Addr) (n c B : Nat) (f k : Int) (w : World) (hr : Rd w B 2 A n (rnCells rs)) (hn : n ≤ 100000) (hb : tot rs ≤ 1000000) (hf1 : -9223372036854775808 ≤ f) (hf2 : f ≤ 9223372036854775807) (hc1 : -9223372036854775808 ≤ k) (hc2 : k ≤ 9223372036854775807) :
    Calls Try.prog 26 #[lv A n c, .int .i64 f, .int .i64 k] w (RetL w (partL rs (clipL f k (tot rs)).1 (clipL f k (tot rs)).2)) := by
  have hr := hr.fits (by decide)
  obtain ⟨a, b, hcl⟩ : ∃ a b, clipL f k (tot rs) = (a, b) := ⟨_, _, rfl⟩
  have hbd := clipL_bd f k (tot rs)
  rw [hcl] at hbd ⊢
  obtain ⟨t, ht⟩ : ∃ t, tot rs = t := ⟨_, rfl⟩
  rw [ht] at hcl hbd
  have HL := Lib.hid (fun (W : World) (h : Below w.heap.size w W) => len_any rs A n c w.heap.size W (hr.below h (Nat.le_refl _)) (by omega) t ht (by omega))
  have HC := Lib.hid (fun W => clip_any f k t a b W (by omega) hf1 hf2 hc1 hc2 hcl)
  have HP := Lib.hid (fun (W : World) (h : Below w.heap.size w W) => part_any rs A n c w.heap.size a b W (hr.below h (Nat.le_refl _)) hn hb (by simp only at hbd; omega) (by simp only at hbd; omega))
  clear hr hcl ht hb hbd
  go_enter Try.func26, Try.ntmps26
  go_wp2_with fail
  refine (HL.out _ (((Below.refl _ _).alloc (Nat.le_refl _) _).alloc (by simp) _)).mono ?_
  rintro e w1 ⟨rfl, hb1⟩
  obtain ⟨q1, z1, l1⟩ := Box.two hb1
  obtain ⟨q2, z2, l2⟩ := Box.new hb1
  have hs1 : w.heap.size + 2 ≤ w1.heap.size := by have := hb1.size; simpa using this
  have hbw := (((Below.refl _ w).alloc (Nat.le_refl _) (.cells #[.slice A n c] 38)).alloc (by simp) (.cells #[.slice none 0 0] 38)).trans (hb1.mono (by simp; omega))
  clear hb1 HL
  go_wp2_with fail
  refine (HC.out _).mono ?_
  rintro e w' ⟨rfl, rfl⟩
  go_wp2_with fail
  refine (HP.out _ hbw).mono ?_
  rintro e w2 ⟨v, rfl, hown, hb2⟩
  have hbw2 := hbw.trans (hb2.mono hbw.size)
  have q3 : w2.cell? ⟨w.heap.size + 1, 0, none⟩ = some (.slice none 0 0) := (hb2.cell (p := ⟨w.heap.size + 1, 0, none⟩) (by simpa using l2)).trans (by simpa using q2 0)
  have z3 : w2.frozen? ⟨w.heap.size + 1, 0, none⟩ = false := (hb2.frozen (p := ⟨w.heap.size + 1, 0, none⟩) (by simpa using l2)).trans (by simpa using z2 0)
  have l3 : w.heap.size + 1 < w2.heap.size := by have := hb2.size; omega
  obtain ⟨A2, c2, rfl, hc3, hR2⟩ := own_form hown
  have HO := Lib.hid hown
  clear q1 z1 l1 q2 z2 l2 HC HP hown
  go_wp2
  refine bodyPost_ret (v := lv A2 (partL rs a b).length c2) (by simp [results, Try.results26, go_sem, q3, z3, l3]) rfl ⟨A2, _, c2, rfl, ?_, hbw2.setCell (by simp) _⟩
  exact Rd.of_own (ownsRow_setCell_below HO.out (show w.heap.size + 1 < w1.heap.size by omega) _)

/-- What 'Set' does. -/
def setL (rs : List (Rn Int)) (a b : Nat) (x : Int) : List (Rn Int) := (partL rs b 65536).foldl pushL (pushL (partL rs 0 a) (b - a, x))
theorem foldl_take_succ {β : Type} (f : β → Rn Int → β) (q : β) (l : List (Rn Int)) (k : Nat) (h : k < l.length) : (l.take (k + 1)).foldl f q = f ((l.take k).foldl f q) l[k] := by
  rw [List.take_succ_eq_append_getElem h, List.foldl_append]; rfl

set_option maxRecDepth 100000 in
set_option maxHeartbeats 2000000 in
theorem set_any (rs : List (Rn Int)) (A : Option Addr) (n c B : Nat) (f k x : Int) (w : World) (hr : Rd w B 2 A n (rnCells rs)) (hn : n ≤ 10000) (hb : tot rs ≤ 65536) (hf1 : -9223372036854775808 ≤ f) (hf2 : f ≤ 9223372036854775807) (hc1 : -9223372036854775808 ≤ k) (hc2 : k ≤ 9223372036854775807) :
    Calls Try.prog 24 #[lv A n c, .int .i64 f, .int .i64 k, .int .i64 x] w (RetL w (setL rs (clipL f k (tot rs)).1 (clipL f k (tot rs)).2 x)) := by
  have hr := hr.fits (by decide)
  obtain ⟨a, b, hcl⟩ : ∃ a b, clipL f k (tot rs) = (a, b) := ⟨_, _, rfl⟩
  have hbd := clipL_bd f k (tot rs)
  rw [hcl] at hbd ⊢
  simp only at hbd ⊢
  obtain ⟨t, ht⟩ : ∃ t, tot rs = t := ⟨_, rfl⟩
  have hrl := hr.rlen
  have hp1 := partGo_length 0 a 0 rs
  have hp2 := partGo_length b 65536 0 rs
  have ht1 := partL_tot rs 0 a
  have ht2 := partL_tot rs b 65536
  rw [ht] at hcl hbd ht1 ht2
  obtain ⟨P1, hP1⟩ : ∃ P1, partL rs 0 a = P1 := ⟨_, rfl⟩
  obtain ⟨P2, hP2⟩ : ∃ P2, partL rs b 65536 = P2 := ⟨_, rfl⟩
  have hp1' : P1.length ≤ n := by rw [← hP1, ← hrl]; exact hp1
  have hp2' : P2.length ≤ n := by rw [← hP2, ← hrl]; exact hp2
  rw [hP1] at ht1
  rw [hP2] at ht2
  obtain ⟨Q0, hQ0⟩ : ∃ Q0, pushL P1 (b - a, x) = Q0 := ⟨_, rfl⟩
  have hq0 : tot Q0 = tot P1 + (b - a) := by rw [← hQ0]; exact pushL_tot P1 (b - a, x)
  have hq1 : Q0.length ≤ P1.length + 1 := by rw [← hQ0]; exact pushL_length P1 _
  have hset : setL rs a b x = P2.foldl pushL Q0 := by rw [setL, hP1, hP2, hQ0]
  rw [hset]
  have HL := Lib.hid (fun (W : World) (h : Below w.heap.size w W) => len_any rs A n c w.heap.size W (hr.below h (Nat.le_refl _)) (by omega) t ht (by omega))
  have HC := Lib.hid (fun W => clip_any f k t a b W (by omega) hf1 hf2 hc1 hc2 hcl)
  have HP1 := Lib.hid (fun (W : World) (h : Below w.heap.size w W) => part_any rs A n c w.heap.size 0 a W (hr.below h (Nat.le_refl _)) (by omega) (by omega) (by omega) (by omega))
  have HP2 := Lib.hid (fun (W : World) (h : Below w.heap.size w W) => part_any rs A n c w.heap.size b 65536 W (hr.below h (Nat.le_refl _)) (by omega) (by omega) (by omega) (by omega))
  rw [hP1] at HP1
  rw [hP2] at HP2
  have HPU := Lib.hid (fun (v : Value) (W : World) (base : Nat) (h : W.ownsRow base 36 2 v P1.length (rnCells P1)) (hbs : base ≤ W.heap.size) => push_any v P1.length base P1 (b - a, x) W h hbs (by omega) (by simp only; omega))
  rw [hQ0] at HPU
  have hba : ((b - a : Nat) : Int) = (b : Int) - (a : Int) := by omega
  simp only [hba] at HPU
  have HH := Lib.hid (show P2.length ≤ 10000 ∧ Q0.length ≤ 10001 ∧ tot Q0 + tot P2 ≤ 1000000 from ⟨by omega, by omega, by omega⟩)
  have hab : a ≤ b := hbd.1
  have hbt : b ≤ 65536 := by omega
  clear hr hcl ht hb hbd hrl hp1 hp2 ht1 ht2 hP1 hP2 hp1' hp2' hQ0 hq0 hq1 hset hba
  go_enter Try.func24, Try.ntmps24
  go_wp2_with fail
  refine (HL.out _ (((Below.refl _ _).alloc (Nat.le_refl _) _).alloc (by simp) _)).mono ?_
  rintro e w1 ⟨rfl, hb1⟩
  have hB1 := Box.two hb1
  have hC1 := Box.new hb1
  have hz1 : (w.alloc (.cells #[.slice A n c] 38)).heap.size = w.heap.size + 1 := by simp
  rw [hz1] at hC1
  have hs1 : w.heap.size + 2 ≤ w1.heap.size := by have := hb1.size; simpa using this
  have hbw := (((Below.refl _ w).alloc (Nat.le_refl _) (.cells #[.slice A n c] 38)).alloc (by simp) (.cells #[.slice none 0 0] 38)).trans (hb1.mono (by simp; omega))
  have HB1 := Lib.hid hB1
  have HC1 := Lib.hid hC1
  obtain ⟨q1, z1, l1⟩ := hB1
  clear hb1 HL hC1 hz1
  go_wp2_with fail
  refine (HC.out _).mono ?_
  rintro e w' ⟨rfl, rfl⟩
  go_wp2_with fail
  refine (HP1.out _ hbw).mono ?_
  rintro e w2 ⟨v2, rfl, hown2, hb2⟩
  have HB2 := Lib.hid (HB1.out.below hb2)
  have HC2 := Lib.hid (HC1.out.below hb2)
  have hbw2 := hbw.trans (hb2.mono hbw.size)
  clear HP1 q1 z1 l1
  go_wp2_with fail
  refine (HPU.out v2 w2 w1.heap.size hown2 hb2.size).mono ?_
  intro e w3 hpu
  obtain ⟨v3, rfl, hown3, hg3, hn3⟩ := hpu
  have HB3 := Lib.hid (HB2.out.row hg3 (ne_row hown2 (by omega)))
  have HC3 := Lib.hid (HC2.out.row hg3 (ne_row hown2 (by omega)))
  have hbw3 := below_row hbw2 hown2 hg3 (by omega) hbw2.size
  have hs3 : w1.heap.size ≤ w3.heap.size := Nat.le_trans hb2.size hg3.size
  obtain ⟨q1, z1, l1⟩ := HB3.out
  clear hown2 hg3 hn3 hb2 hbw2 HPU
  go_wp2_with fail
  refine (HP2.out _ hbw3).mono ?_
  rintro e w4 ⟨v4, rfl, hown4, hb4⟩
  obtain ⟨A4, c4, rfl, _, hR4⟩ := own_form hown4
  have hne4 : ∀ b off, A4 = some ⟨b, off, none⟩ → some b ≠ v3.ownBlock := by
    intro b off hA hh
    have h1 := (hown4.lt b (by rw [hA]; rfl)).1
    have h2 := (hown3.lt b hh.symm).2
    omega
  have hown3' := own_below hown3 hb4 (Nat.le_refl _)
  have HC4 := HC3.out.below hb4
  have hbw4 := hbw3.trans (hb4.mono hbw3.size)
  have hs4 := hb4.size
  clear hown4 hown3 hb4 hbw3 HP2 q1 z1 l1
  obtain ⟨hh1, hh2, hh3⟩ := HH.out
  go_wp2_with fail
  go_loopw [11, 35] (fun v i wr => ∃ j : Nat, j ≤ P2.length ∧ i = .int .i64 j ∧ wr.ownsRow w1.heap.size 36 2 v ((P2.take j).foldl pushL Q0).length (rnCells ((P2.take j).foldl pushL Q0)) ∧ (∀ b off, A4 = some ⟨b, off, none⟩ → some b ≠ v.ownBlock) ∧ Rd wr w4.heap.size 2 A4 P2.length (rnCells P2) ∧ Box wr (w.heap.size + 1) #[.slice none 0 0] ∧ w4.heap.size ≤ wr.heap.size ∧ Below w.heap.size w wr) (fun _ i _ => P2.length - (intOf i).toNat)
  case atStart => exact ⟨0, by omega, rfl, hown3', hne4, hR4, HC4, Nat.le_refl _, hbw4⟩
  case round =>
    obtain ⟨j, hj, rfl, hown, hne, hR, hC, hsw, hbr⟩ := hrel
    clear hown3' hne4 hR4 HC4 hbw4
    by_cases hlt : j < P2.length
    · obtain ⟨b0, o0, rfl, hb0, hj', c0, c1⟩ := rn_cells hR j hlt
      have hstep := foldl_take_succ pushL Q0 P2 j hlt
      have hl1 := foldl_push_length (P2.take j) Q0
      have hl2 : (P2.take j).length ≤ j := List.length_take_le _ _
      have ht1 := foldl_push_tot (P2.take j) Q0
      have ht2 := tot_snoc P2 j hlt
      have ht3 := tot_take P2 (j + 1)
      have HPU := Lib.hid (fun (W : World) (h : W.ownsRow w1.heap.size 36 2 u11 ((P2.take j).foldl pushL Q0).length (rnCells ((P2.take j).foldl pushL Q0))) (hbs : w1.heap.size ≤ W.heap.size) => push_any u11 _ w1.heap.size _ P2[j] W h hbs (by omega) (by omega))
      rw [← hstep] at HPU
      have HO := Lib.hid hown
      have HR' := Lib.hid hR
      have HC' := Lib.hid hC
      have HNE := Lib.hid hne
      clear hstep hl1 hl2 ht1 ht2 ht3 hown hR hC hne
      go_wp2_with fail
      refine (HPU.out _ (own_box HO.out _) (by simp; omega)).mono ?_
      intro e w5 hpu
      obtain ⟨v5, rfl, hown5, hg5, hn5⟩ := hpu
      have hne5 : ∀ b off, some (⟨b0, o0, none⟩ : Addr) = some ⟨b, off, none⟩ → some b ≠ v5.ownBlock := by
        intro b off hA
        injection hA with hA
        injection hA with hA _
        subst hA
        rcases hn5 with h | ⟨g, h, hg⟩
        · rw [h]; exact HNE.out _ _ rfl
        · rw [h]; intro hh; injection hh with hh; simp at hg; omega
      have hR5 := (HR'.out.alloc' (.cells #[.int .i64 P2[j].1, .int .i64 P2[j].2] 36) hsw).off_row hg5 (by simp; omega) (fun b off hA => by injection hA with hA; injection hA with hA _; subst hA; exact HNE.out _ _ rfl)
      have hC5 := (HC'.out.alloc' (.cells #[.int .i64 P2[j].1, .int .i64 P2[j].2] 36)).row hg5 (ne_row HO.out (by omega))
      have hb5 := below_row (hbr.alloc hbr.size (.cells #[.int .i64 P2[j].1, .int .i64 P2[j].2] 36)) (own_box HO.out _) hg5 (by omega) (by have := hbr.size; simp; omega)
      have hs5 : w4.heap.size ≤ w5.heap.size := by have := hg5.size; simp at this; omega
      clear hg5 hn5 HPU
      go_wp2
      exact ⟨⟨j + 1, by omega, by go_num, hown5, hne5, hR5, hC5, hs5, hb5⟩, by simp [intOf]; omega⟩
    · obtain rfl : j = P2.length := by omega
      rw [List.take_of_length_le (Nat.le_refl _)] at hown
      obtain ⟨A5, c5, hv5, _, _⟩ := own_form hown
      subst hv5
      have HO := Lib.hid hown
      obtain ⟨q2, z2, l2⟩ := hC
      clear hown hne hR
      go_wp2
      refine bodyPost_ret (v := lv A5 (P2.foldl pushL Q0).length c5) (by simp [results, Try.results24, go_sem, q2, z2, l2]) rfl ⟨A5, _, c5, rfl, ?_, hbr.setCell (by simp) _⟩
      exact Rd.of_own (ownsRow_setCell_below HO.out (show w.heap.size + 1 < w1.heap.size by omega) _)
end Go.Proofs.Ytjbbkhoonenfjaa

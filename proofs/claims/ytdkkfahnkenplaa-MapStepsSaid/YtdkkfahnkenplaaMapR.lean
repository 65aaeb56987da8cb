/- Layer 4 as layer 25 uses it: New, Runs, Append (picked out of other templates by pick.py) -/
import Derived.Test.YtdkkfahnkenplaaRunS
import Derived.Test.YtdkkfahnkenplaaRegS
set_option linter.unusedVariables false
set_option linter.unusedSimpArgs false
namespace Go.Proofs.Ytdkkfahnkenplaa
open Go.RowKit

theorem Box.two {w w1 : World} {cs ds : Array Value} {e e' : TypeId} (hb : Below ((w.alloc (.cells cs e)).alloc (.cells ds e')).heap.size ((w.alloc (.cells cs e)).alloc (.cells ds e')) w1) : Box w1 w.heap.size cs :=
  (Box.alloc' (Box.alloc_ (w := w) (cs := cs) (e := e)) _).below hb
/-- A list that is returned. -/
def RetL (w : World) (rs : List (Rn Int)) (e : Ending) (w' : World) : Prop := ∃ A n c, e = .returned (lv A n c) ∧ Rd w' w'.heap.size 2 A n (rnCells rs) ∧ Below w.heap.size w w'
theorem retL_of {w w' : World} {v : Value} {base : Nat} {rs : List (Rn Int)} (h : w'.ownsRow base 74 2 v rs.length (rnCells rs)) (hb : Below w.heap.size w w') : RetL w rs (.returned (.agg #[v])) w' := by
  obtain ⟨A, c, rfl, _, hR⟩ := own_form h
  exact ⟨A, _, c, rfl, hR, hb⟩
theorem foldl_take_succ {β : Type} (f : β → Rn Int → β) (q : β) (l : List (Rn Int)) (k : Nat) (h : k < l.length) : (l.take (k + 1)).foldl f q = f ((l.take k).foldl f q) l[k] := by
  rw [List.take_succ_eq_append_getElem h, List.foldl_append]; rfl
def newL (n : Nat) (v : Int) : List (Rn Int) := if n < 1 ∨ 65536 < n then [] else [(n, v)]
theorem new_any (n : Nat) (v : Int) (w : World) (hn : n ≤ 1000000) : Calls Try.prog 40 #[.int .i64 n, .int .i64 v] w (RetL w (newL n v)) := by
  by_cases h1 : n < 1
  · have e : newL n v = [] := by rw [newL, if_pos (.inl h1)]
    rw [e]
    have h2 : (n : Int) < 1 := by omega
    clear e
    go_enter Try.func40, Try.ntmps40
    go_wp2
    exact bodyPost_ret (v := lv none 0 0) (by simp [results, Try.results40, go_sem]) rfl ⟨none, 0, 0, rfl, Rd.nil_, (Below.refl _ _).alloc (Nat.le_refl _) _⟩
  · have g1 : decide ((n : Int) < 1) = false := by simp; omega
    by_cases h2 : 65536 < n
    · have e : newL n v = [] := by rw [newL, if_pos (.inr h2)]
      rw [e]
      have h3 : (65536 : Int) < (n : Int) := by omega
      clear e
      go_enter Try.func40, Try.ntmps40
      go_wp2
      exact bodyPost_ret (v := lv none 0 0) (by simp [results, Try.results40, go_sem]) rfl ⟨none, 0, 0, rfl, Rd.nil_, (Below.refl _ _).alloc (Nat.le_refl _) _⟩
    · have e : newL n v = [(n, v)] := by rw [newL, if_neg (by omega)]
      rw [e]
      have g2 : decide ((65536 : Int) < (n : Int)) = false := by simp; omega
      clear e
      go_enter Try.func40, Try.ntmps40
      go_wp2
      refine bodyPost_ret (v := lv (some ⟨w.heap.size + 1, 0, none⟩) 1 1) (by simp [results, Try.results40, go_sem]) rfl ⟨_, 1, 1, rfl, ?_, ((Below.refl _ _).alloc (Nat.le_refl _) _).alloc (by simp) _⟩
      exact Rd.lit2 rfl (by simp)
theorem runs_any (A : Option Addr) (n c B : Nat) (rs : List (Rn Int)) (w : World) (hr : Rd w B 2 A n (rnCells rs)) (hn : n ≤ 100000) :
    Calls Try.prog 30 #[lv A n c] w fun e w' => ∃ v, e = .returned v ∧ w'.ownsRow w.heap.size 74 2 v n (rnCells rs) ∧ Below w.heap.size w w' := by
  have hr := hr.fits (by decide)
  have HC := Lib.hid (fun (W : World) (h : Below w.heap.size w W) => rclone_any A n c w.heap.size rs W (hr.below h (Nat.le_refl _)) hn)
  clear hr
  go_enter Try.func30, Try.ntmps30
  go_wp2_with fail
  refine (HC.out _ ((Below.refl _ _).alloc (Nat.le_refl _) _)).mono ?_
  rintro e w1 ⟨v, rfl, hown, hb⟩
  go_wp2
  go_ret
  exact ⟨_, rfl, own_mono hown (by simp), ext_alloc' (Below.refl _ _) (by simpa using hb)⟩
theorem ofL_length (vs : List Int) : (ofL vs).length ≤ vs.length := by
  have : ∀ (l : List Int) (a : List (Rn Int)), (l.foldl snocL a).length ≤ a.length + l.length := by
    intro l
    induction l with
    | nil => intro a; simp
    | cons v t ih => intro a; have h1 := ih (snocL a v); have h2 := pushL_length a (1, v); simp only [List.foldl_cons, snocL, List.length_cons] at *; omega
  simpa [ofL] using this vs []
theorem ofL_tot (vs : List Int) : tot (ofL vs) = vs.length := by rw [← expand_length, (ofL_spec vs).2]
theorem RetL.open_ {w w' : World} {rs : List (Rn Int)} {e : Ending} (n : Nat) (hn : rs.length = n) (h : RetL w rs e w') : ∃ A c, e = .returned (lv A n c) ∧ Rd w' w'.heap.size 2 A n (rnCells rs) ∧ Below w.heap.size w w' := by
  obtain ⟨A, n', c, he, hR, hb⟩ := h
  obtain rfl : n' = n := by rw [← hn]; exact hR.rlen.symm
  exact ⟨A, c, he, hR, hb⟩
/-- RetL, saying besides that the result's block is new. -/
def RetO (w : World) (rs : List (Rn Int)) (e : Ending) (w' : World) : Prop := ∃ A n c, e = .returned (lv A n c) ∧ Rd w' w'.heap.size 2 A n (rnCells rs) ∧ Below w.heap.size w w' ∧ ∀ b off, A = some ⟨b, off, none⟩ → w.heap.size ≤ b ∧ b < w'.heap.size
theorem RetO.retL {w w' : World} {rs : List (Rn Int)} {e : Ending} (h : RetO w rs e w') : RetL w rs e w' := by
  obtain ⟨A, n, c, h1, h2, h3, _⟩ := h
  exact ⟨A, n, c, h1, h2, h3⟩
theorem RetO.open_ {w w' : World} {rs : List (Rn Int)} {e : Ending} (n : Nat) (hn : rs.length = n) (h : RetO w rs e w') : ∃ A c, e = .returned (lv A n c) ∧ Rd w' w'.heap.size 2 A n (rnCells rs) ∧ Below w.heap.size w w' ∧ ∀ b off, A = some ⟨b, off, none⟩ → w.heap.size ≤ b ∧ b < w'.heap.size := by
  obtain ⟨A, m, c, h1, h2, h3, h4⟩ := h
  obtain rfl : m = n := by rw [← hn, h2.rlen]
  exact ⟨A, c, h1, h2, h3, h4⟩
theorem retO_of {w w' : World} {v : Value} {base : Nat} {rs : List (Rn Int)} (h : w'.ownsRow base 74 2 v rs.length (rnCells rs)) (hs : w.heap.size ≤ base) (hb : Below w.heap.size w w') : RetO w rs (.returned (.agg #[v])) w' := by
  obtain ⟨A, c, rfl, _, hR⟩ := own_form h
  exact ⟨A, _, c, rfl, hR, hb, fun b off hA => ⟨Nat.le_trans hs (h.lt b (by rw [hA]; rfl)).1, (h.lt b (by rw [hA]; rfl)).2⟩⟩
def appendL (rs ms : List (Rn Int)) : List (Rn Int) := (partL ms 0 (65536 - tot rs)).foldl pushL rs
set_option maxRecDepth 100000 in
set_option maxHeartbeats 2000000 in
theorem append_own (rs ms : List (Rn Int)) (A A2 : Option Addr) (n c m c2 B : Nat) (w : World) (hr : Rd w B 2 A n (rnCells rs)) (hr2 : Rd w B 2 A2 m (rnCells ms)) (hn : n ≤ 10000) (hm : m ≤ 10000) (hB : B ≤ w.heap.size) (hb : tot rs ≤ 65536) (hb2 : tot ms ≤ 65536) :
    Calls Try.prog 39 #[lv A n c, lv A2 m c2] w (RetO w (appendL rs ms)) := by
  have hr := hr.fits (by decide)
  have hrl := hr.rlen
  have hrl2 := hr2.rlen
  obtain ⟨t, ht⟩ : ∃ t, tot rs = t := ⟨_, rfl⟩
  have hp2 := partGo_length 0 (65536 - t) 0 ms
  have ht2 := partL_tot ms 0 (65536 - t)
  obtain ⟨P2, hP2⟩ : ∃ P2, partL ms 0 (65536 - t) = P2 := ⟨_, rfl⟩
  have hp2' : P2.length ≤ m := by rw [← hP2, ← hrl2]; exact hp2
  rw [hP2] at ht2
  have hset : appendL rs ms = P2.foldl pushL rs := by rw [appendL, ht, hP2]
  rw [hset]
  have HL := Lib.hid (fun (W : World) (h : Below w.heap.size w W) => len_any rs A n c w.heap.size W (hr.below h (Nat.le_refl _)) (by omega) t ht (by omega))
  have HC := Lib.hid (fun (W : World) (h : Below w.heap.size w W) => rclone_any A n c w.heap.size rs W (hr.below h (Nat.le_refl _)) (by omega))
  have HP2' : ∀ (W : World) (y : Int), y = 65536 - (t : Int) → Below w.heap.size w W → Calls Try.prog 42 #[lv A2 m c2, .int .i64 0, .int .i64 y] W fun e w' => ∃ v, e = .returned v ∧ w'.ownsRow W.heap.size 74 2 v P2.length (rnCells P2) ∧ Below W.heap.size W w' := by
    intro W y hy h
    have h1 := part_any ms A2 m c2 B 0 (65536 - t) W (hr2.below h hB) (by omega) (by omega) (by omega) (by omega)
    obtain ⟨q, hq⟩ : ∃ q, 65536 - t = q := ⟨_, rfl⟩
    rw [hq] at h1 hP2
    have hqy : y = (q : Int) := by omega
    subst hqy
    rw [hP2] at h1
    exact h1
  have HP2 := Lib.hid HP2'
  clear HP2'
  have HH := Lib.hid (show P2.length ≤ 10000 ∧ rs.length ≤ 10001 ∧ tot rs + tot P2 ≤ 1000000 from ⟨by omega, by omega, by omega⟩)
  have HRL := Lib.hid hrl
  have htb : t ≤ 65536 := by omega
  clear hr hr2 hrl hrl2 ht hp2 ht2 hP2 hp2' hset hb hb2
  have hz1 : (w.alloc (.cells #[.slice A n c] 67)).heap.size = w.heap.size + 1 := by simp
  have hz2 : ((w.alloc (.cells #[.slice A n c] 67)).alloc (.cells #[.slice A2 m c2] 67)).heap.size = w.heap.size + 1 + 1 := by simp
  have b0 := ((Box.alloc_ (w := w) (cs := #[.slice A n c]) (e := 67)).alloc' (.cells #[.slice A2 m c2] 67)).alloc' (.cells #[.slice none 0 0] 67)
  have b1 := (Box.alloc_ (w := w.alloc (.cells #[.slice A n c] 67)) (cs := #[.slice A2 m c2]) (e := 67)).alloc' (.cells #[.slice none 0 0] 67)
  have b2 := Box.alloc_ (w := (w.alloc (.cells #[.slice A n c] 67)).alloc (.cells #[.slice A2 m c2] 67)) (cs := #[.slice none 0 0]) (e := 67)
  have hw0 : Below w.heap.size w (((w.alloc (.cells #[.slice A n c] 67)).alloc (.cells #[.slice A2 m c2] 67)).alloc (.cells #[.slice none 0 0] 67)) := (((Below.refl _ _).alloc (Nat.le_refl _) _).alloc (by simp) _).alloc (by simp; omega) _
  have hs0 : (((w.alloc (.cells #[.slice A n c] 67)).alloc (.cells #[.slice A2 m c2] 67)).alloc (.cells #[.slice none 0 0] 67)).heap.size = w.heap.size + 3 := by simp
  rw [hz1] at b1
  rw [hz2] at b2
  clear hz1 hz2
  go_enter Try.func39, Try.ntmps39
  go_wp2_with fail
  revert b0 b1 b2 hw0 hs0
  generalize (((w.alloc (.cells #[.slice A n c] 67)).alloc (.cells #[.slice A2 m c2] 67)).alloc (.cells #[.slice none 0 0] 67)) = W0
  intro b0 b1 b2 hw0 hs0
  refine (HC.out _ hw0).mono ?_
  rintro e w1 ⟨v1, rfl, hown1, hb1⟩
  have HB0 := Lib.hid (b0.below hb1)
  have HB1 := Lib.hid (b1.below hb1)
  have HB2 := Lib.hid (b2.below hb1)
  have hbw := hw0.trans (hb1.mono hw0.size)
  have hs1 : w.heap.size + 3 ≤ w1.heap.size := by have := hb1.size; omega
  have HO1 := Lib.hid hown1
  rw [hs0] at HO1
  clear b0 b1 b2 hw0 hs0 hb1 hown1
  go_wp2_with fail
  have hS0 : (∀ i, w1.drew.cell? ⟨w.heap.size, i, none⟩ = (#[.slice A n c] : Array Value)[i]?) ∧ (∀ i, w1.drew.cell? ⟨w.heap.size + 1, i, none⟩ = (#[.slice A2 m c2] : Array Value)[i]?) ∧ True := ⟨HB0.out.1, HB1.out.1, trivial⟩
  refine rgs_start (fun w' => (∀ i, w'.cell? ⟨w.heap.size, i, none⟩ = (#[.slice A n c] : Array Value)[i]?) ∧ (∀ i, w'.cell? ⟨w.heap.size + 1, i, none⟩ = (#[.slice A2 m c2] : Array Value)[i]?) ∧ True) (by kernel_rfl) ?_
  refine rgs_t (v := ?_) (some 11) 0 (by kernel_rfl) rfl rfl (by assumption) (.inl ⟨by rfl, fun w' hw => ?_⟩) ?_
  rotate_left
  · obtain ⟨q1, q2, q3⟩ := hw; go_simp <;> with_reducible rfl
  try simp only [Act.put, List.setIfInBounds_toArray, List.set_cons_zero, List.set_cons_succ]
  refine rgs_t (v := ?_) (some 12) 1 (by kernel_rfl) rfl rfl (by assumption) (.inl ⟨by rfl, fun w' hw => ?_⟩) ?_
  rotate_left
  · obtain ⟨q1, q2, q3⟩ := hw; go_simp <;> with_reducible rfl
  try simp only [Act.put, List.setIfInBounds_toArray, List.set_cons_zero, List.set_cons_succ]
  refine rgs_t (v := ?_) (some 17) 6 (by kernel_rfl) rfl rfl (by assumption) (.inl ⟨by rfl, fun w' hw => ?_⟩) ?_
  rotate_left
  · obtain ⟨q1, q2, q3⟩ := hw; go_simp <;> with_reducible rfl
  try simp only [Act.put, List.setIfInBounds_toArray, List.set_cons_zero, List.set_cons_succ]
  refine rgs_c 2 (by kernel_rfl) rfl (by rfl) (fun K hK => ?_)
  go_simp
  refine (HL.out _ (below_drew hbw)).mono ?_
  rintro e w2 ⟨rfl, hb2⟩
  have HB02 := Lib.hid (HB0.out.drew.below hb2)
  have HB12 := Lib.hid (HB1.out.drew.below hb2)
  have HB22 := Lib.hid (HB2.out.drew.below hb2)
  have hbw2 := (below_drew hbw).trans (hb2.mono hbw.size)
  have HO2 := Lib.hid (own_below (w := w1.drew) HO1.out hb2 (Nat.le_refl _))
  have hS2 : (∀ i, w2.cell? ⟨w.heap.size, i, none⟩ = (#[.slice A n c] : Array Value)[i]?) ∧ (∀ i, w2.cell? ⟨w.heap.size + 1, i, none⟩ = (#[.slice A2 m c2] : Array Value)[i]?) ∧ True := ⟨HB02.out.1, HB12.out.1, trivial⟩
  refine hK _ _ hS2 ?_
  clear hK K
  try simp only [Act.put, List.setIfInBounds_toArray, List.set_cons_zero, List.set_cons_succ]
  refine rgs_t (v := ?_) (some 14) 3 (by kernel_rfl) rfl rfl (by assumption) (.inl ⟨by rfl, fun w' hw => ?_⟩) ?_
  rotate_left
  · obtain ⟨q1, q2, q3⟩ := hw; go_simp <;> with_reducible rfl
  try simp only [Act.put, List.setIfInBounds_toArray, List.set_cons_zero, List.set_cons_succ]
  refine rgs_c 4 (by kernel_rfl) rfl (by rfl) (fun K hK => ?_)
  go_simp
  refine (HP2.out _ _ (IntWalk.i64_in _ ⟨by omega, by omega⟩) hbw2).mono ?_
  rintro e w4 ⟨v4, rfl, hown4, hb4⟩
  obtain ⟨A4, c4, rfl, _, hR4⟩ := own_form hown4
  have HB04 := Lib.hid (HB02.out.below hb4)
  have HB14 := Lib.hid (HB12.out.below hb4)
  have HB24 := Lib.hid (HB22.out.below hb4)
  have hS4 : (∀ i, w4.cell? ⟨w.heap.size, i, none⟩ = (#[.slice A n c] : Array Value)[i]?) ∧ (∀ i, w4.cell? ⟨w.heap.size + 1, i, none⟩ = (#[.slice A2 m c2] : Array Value)[i]?) ∧ True := ⟨HB04.out.1, HB14.out.1, trivial⟩
  refine hK _ _ hS4 ?_
  clear hK K
  try simp only [Act.put, List.setIfInBounds_toArray, List.set_cons_zero, List.set_cons_succ]
  refine rgs_t (v := ?_) (some 16) 5 (by kernel_rfl) rfl rfl (by assumption) (.inl ⟨by rfl, fun w' hw => ?_⟩) ?_
  rotate_left
  · obtain ⟨q1, q2, q3⟩ := hw; go_simp <;> with_reducible rfl
  try simp only [Act.put, List.setIfInBounds_toArray, List.set_cons_zero, List.set_cons_succ]
  refine rgs_d (by kernel_rfl) ?_
  have hbw4 := hbw2.trans (hb4.mono hbw2.size)
  have hs4 := hb4.size
  have hs2 : w1.heap.size ≤ w2.heap.size := hb2.size
  have hown1 : w4.ownsRow (w.heap.size + 3) 74 2 v1 rs.length (rnCells rs) := by rw [HRL.out]; exact own_below HO2.out hb4 (Nat.le_refl _)
  have hne4 : ∀ b off, A4 = some ⟨b, off, none⟩ → some b ≠ v1.ownBlock := by
    intro b off hA hh
    have h1 := (hown4.lt b (by rw [hA]; rfl)).1
    have h2 := (HO2.out.lt b hh.symm).2
    have h3 : v1.ownBlock = some b := hh.symm
    omega
  have hC4 := HB24.out
  clear HO1 HO2 HB0 HB1 HB2 HB02 HB12 HB22 HB04 HB14 HB24 hS0 hS2 hS4 hown4 hb4 hb2 hbw hbw2 HL HC HP2 HRL
  obtain ⟨hh1, hh2, hh3⟩ := HH.out
  go_wp2_with fail
  go_loopw [5, 17] (fun v i wr => ∃ j : Nat, j ≤ P2.length ∧ i = .int .i64 j ∧ wr.ownsRow (w.heap.size + 3) 74 2 v ((P2.take j).foldl pushL rs).length (rnCells ((P2.take j).foldl pushL rs)) ∧ (∀ b off, A4 = some ⟨b, off, none⟩ → some b ≠ v.ownBlock) ∧ Rd wr w4.heap.size 2 A4 P2.length (rnCells P2) ∧ Box wr (w.heap.size + 1 + 1) #[.slice none 0 0] ∧ w4.heap.size ≤ wr.heap.size ∧ Below w.heap.size w wr) (fun _ i _ => P2.length - (intOf i).toNat)
  case atStart => exact ⟨0, by omega, rfl, hown1, hne4, hR4, hC4, Nat.le_refl _, hbw4⟩
  case round =>
    obtain ⟨j, hj, rfl, hown, hne, hR, hC, hsw, hbr⟩ := hrel
    clear hown1 hne4 hR4 hC4 hbw4
    by_cases hlt : j < P2.length
    · obtain ⟨b0, o0, rfl, hb0, hj', c0, c1⟩ := rn_cells hR j hlt
      have hstep := foldl_take_succ pushL rs P2 j hlt
      have hl1 := foldl_push_length (P2.take j) rs
      have hl2 : (P2.take j).length ≤ j := List.length_take_le _ _
      have ht1 := foldl_push_tot (P2.take j) rs
      have ht2 := tot_snoc P2 j hlt
      have ht3 := tot_take P2 (j + 1)
      have HPU := Lib.hid (fun (W : World) (h : W.ownsRow (w.heap.size + 3) 74 2 u5 ((P2.take j).foldl pushL rs).length (rnCells ((P2.take j).foldl pushL rs))) (hbs : w.heap.size + 3 ≤ W.heap.size) => push_any u5 _ (w.heap.size + 3) _ P2[j] W h hbs (by omega) (by omega))
      rw [← hstep] at HPU
      have HO := Lib.hid hown
      have HR' := Lib.hid hR
      have HC' := Lib.hid hC
      have HNE := Lib.hid hne
      clear hstep hl1 hl2 ht1 ht2 ht3 hown hR hC hne
      go_wp2_with fail
      refine (HPU.out _ (own_box HO.out _) (by simp; omega)).mono ?_
      intro e w5 hpu
      obtain ⟨v5, rfl, hown5, hg5, hn5⟩ := hpu
      have hne5 : ∀ b off, some (⟨b0, o0, none⟩ : Addr) = some ⟨b, off, none⟩ → some b ≠ v5.ownBlock := by
        intro b off hA
        injection hA with hA
        injection hA with hA _
        subst hA
        rcases hn5 with h | ⟨g, h, hg⟩
        · rw [h]; exact HNE.out _ _ rfl
        · rw [h]; intro hh; injection hh with hh; simp at hg; omega
      have hR5 := (HR'.out.alloc' (.cells #[.int .i64 P2[j].1, .int .i64 P2[j].2] 74) hsw).off_row hg5 (by simp; omega) (fun b off hA => by injection hA with hA; injection hA with hA _; subst hA; exact HNE.out _ _ rfl)
      have hC5 := (HC'.out.alloc' (.cells #[.int .i64 P2[j].1, .int .i64 P2[j].2] 74)).row hg5 (ne_row HO.out (by omega))
      have hb5 := below_row (hbr.alloc hbr.size (.cells #[.int .i64 P2[j].1, .int .i64 P2[j].2] 74)) (own_box HO.out _) hg5 (by omega) (by have := hbr.size; simp; omega)
      have hs5 : w4.heap.size ≤ w5.heap.size := by have := hg5.size; simp at this; omega
      clear hg5 hn5 HPU
      go_wp2
      exact ⟨⟨j + 1, by omega, by go_num, hown5, hne5, hR5, hC5, hs5, hb5⟩, by simp [intOf]; omega⟩
    · obtain rfl : j = P2.length := by omega
      rw [List.take_of_length_le (Nat.le_refl _)] at hown
      obtain ⟨A5, c5, hv5, _, _⟩ := own_form hown
      subst hv5
      have HO := Lib.hid hown
      obtain ⟨q2, z2, l2⟩ := hC
      clear hown hne hR
      go_wp2
      refine bodyPost_ret (v := lv A5 (P2.foldl pushL rs).length c5) (by simp [results, Try.results39, go_sem, q2, z2, l2]) rfl ?_
      exact retO_of (ownsRow_setCell_below HO.out (show w.heap.size + 1 + 1 < w.heap.size + 3 by omega) _) (by omega) (hbr.setCell (by show w.heap.size ≤ w.heap.size + 1 + 1; omega) _)
theorem append_any (rs ms : List (Rn Int)) (A A2 : Option Addr) (n c m c2 B : Nat) (w : World) (hr : Rd w B 2 A n (rnCells rs)) (hr2 : Rd w B 2 A2 m (rnCells ms)) (hn : n ≤ 10000) (hm : m ≤ 10000) (hB : B ≤ w.heap.size) (hb : tot rs ≤ 65536) (hb2 : tot ms ≤ 65536) :
    Calls Try.prog 39 #[lv A n c, lv A2 m c2] w (RetL w (appendL rs ms)) :=
  (append_own rs ms A A2 n c m c2 B w hr hr2 hn hm hB hb hb2).mono fun _ _ h => h.retL
end Go.Proofs.Ytdkkfahnkenplaa

/- Layer 4: Equal, Append (over int). -/
import Derived.Test.YtjbbkhoonenfjaaRunA
import Derived.Test.YtjbbkhoonenfjaaRegS
set_option linter.unusedVariables false
set_option linter.unusedSimpArgs false
namespace Go.Proofs.Ytjbbkhoonenfjaa
open Go.RowKit

set_option maxRecDepth 100000 in
set_option maxHeartbeats 1000000 in
theorem sequal_any (a b : List (Rn Int)) (A A2 : Option Addr) (n c m c2 B : Nat) (w : World) (hr : Rd w B 2 A n (rnCells a)) (hr2 : Rd w B 2 A2 m (rnCells b)) (hn : n ≤ 1000000) (hm : m ≤ 1000000) (r : Bool) (h : decide (a = b) = r) :
    Calls Try.prog 35 #[.slice A n c, .slice A2 m c2] w fun e w' => e = .returned (.bool r) ∧ ∃ k, w' = w.drewN k := by
  have hl := hr.rlen
  have hl2 := hr2.rlen
  by_cases hnm : n = m
  · subst hnm
    have HR := Lib.hid hr
    have HR2 := Lib.hid hr2
    have HH := Lib.hid h
    have HL := Lib.hid hl
    have HL2 := Lib.hid hl2
    clear hr hr2 h hl hl2
    go_enter Try.func35, Try.ntmps35
    go_wp2
    go_loopw [5, 13] (fun x i wr => ∃ k q : Nat, k ≤ n ∧ i = .int .i64 k ∧ a.take k = b.take k ∧ wr = w.drewN q) (fun _ i _ => n - (intOf i).toNat)
    case atStart => exact ⟨0, 0, by omega, rfl, rfl, rfl⟩
    case round =>
      obtain ⟨k, q, hk, rfl, hab, rfl⟩ := hrel
      have HAB := Lib.hid hab
      clear hab
      by_cases hlt : k < n
      · obtain ⟨b1, o1, rfl, _, hk1, x0, x1⟩ := rn_cells HR.out k hlt
        obtain ⟨b2, o2, rfl, _, hk2, y0, y1⟩ := rn_cells HR2.out k hlt
        obtain ⟨u1, u2, hu⟩ : ∃ u1 u2, a[k] = (u1, u2) := ⟨_, _, rfl⟩
        obtain ⟨v1, v2, hv⟩ : ∃ v1 v2, b[k] = (v1, v2) := ⟨_, _, rfl⟩
        rw [hu] at x0 x1
        rw [hv] at y0 y1
        simp only at x0 x1 y0 y1
        have HU := Lib.hid hu
        have HV := Lib.hid hv
        clear hu hv
        by_cases he : u1 = v1 ∧ u2 = v2
        · obtain ⟨rfl, rfl⟩ := he
          have hnx : a.take (k + 1) = b.take (k + 1) := by
            rw [List.take_succ_eq_append_getElem hk1, List.take_succ_eq_append_getElem hk2, HAB.out, HU.out, HV.out]
          have HN := Lib.hid hnx
          clear hnx
          go_wp2_with fail
          go_quiet (fail)
          go_wp2
          exact ⟨⟨k + 1, q + nq, by omega, by go_num, HN.out, rfl⟩, by simp [intOf]; omega⟩
        · have hr0 : r = false := by
            rw [← HH.out]
            apply decide_eq_false
            intro e
            subst e
            rw [HU.out] at HV
            have := HV.out
            injection this with e1 e2
            exact he ⟨e1, e2⟩
          subst hr0
          by_cases h1 : u1 = v1
          · have h2 : ¬ u2 = v2 := fun h => he ⟨h1, h⟩
            subst h1
            have hd : (u2 == v2) = false := by simpa using h2
            have hd2 : ((u2 : Int) == (v2 : Int)) = false := by simpa using h2
            clear h2 he
            go_wp2_with fail
            go_quiet (fail)
            go_wp2
            go_ret
            exact ⟨rfl, q + nq, by first | rfl | rw [World.drewN_drewN]⟩
          · have hd : (u1 == v1) = false := by rw [beq_eq_false_iff_ne]; exact h1
            have hd2 : ((u1 : Int) == (v1 : Int)) = false := by rw [beq_eq_false_iff_ne]; intro h; exact h1 (by exact_mod_cast h)
            clear h1 he
            go_wp2_with fail
            go_quiet (fail)
            go_wp2
            go_ret
            exact ⟨rfl, q + nq, by first | rfl | rw [World.drewN_drewN]⟩
      · obtain rfl : k = n := by omega
        have hr0 : r = true := by
          rw [← HH.out]
          apply decide_eq_true
          have h1 := HAB.out
          rwa [List.take_of_length_le (by rw [HL.out]; omega), List.take_of_length_le (by rw [HL2.out]; omega)] at h1
        subst hr0
        go_wp2
        go_ret
        exact ⟨rfl, q, rfl⟩
  · have hr0 : r = false := by
      rw [← h]
      apply decide_eq_false
      rintro rfl
      omega
    subst hr0
    have hne : ((n : Int) != (m : Int)) = true := by simp; omega
    clear h hr hr2 hl hl2 hnm
    go_enter Try.func35, Try.ntmps35
    go_wp2
    go_ret
    exact ⟨rfl, 0, rfl⟩
theorem equal_any (a b : List (Rn Int)) (A A2 : Option Addr) (n c m c2 B : Nat) (w : World) (hr : Rd w B 2 A n (rnCells a)) (hr2 : Rd w B 2 A2 m (rnCells b)) (hn : n ≤ 1000000) (hm : m ≤ 1000000) (hB : B ≤ w.heap.size) (r : Bool) (h : decide (a = b) = r) :
    Calls Try.prog 23 #[lv A n c, lv A2 m c2] w fun e w' => e = .returned (.bool r) ∧ Below w.heap.size w w' := by
  have HE := Lib.hid (fun (W : World) (hb : Below w.heap.size w W) => sequal_any a b A A2 n c m c2 B W (hr.below hb hB) (hr2.below hb hB) hn hm r h)
  clear hr hr2 h
  go_enter Try.func23, Try.ntmps23
  go_wp2_with fail
  refine (HE.out _ (((Below.refl _ _).alloc (Nat.le_refl _) _).alloc (by simp) _)).mono ?_
  rintro e w1 ⟨rfl, q, rfl⟩
  go_wp2
  go_ret
  exact ⟨rfl, below_drewN (((Below.refl _ _).alloc (Nat.le_refl _) _).alloc (by simp) _) _⟩

/-- RetL, saying besides that the result's block is new. -/
def RetO (w : World) (rs : List (Rn Int)) (e : Ending) (w' : World) : Prop := ∃ A n c, e = .returned (lv A n c) ∧ Rd w' w'.heap.size 2 A n (rnCells rs) ∧ Below w.heap.size w w' ∧ ∀ b off, A = some ⟨b, off, none⟩ → w.heap.size ≤ b ∧ b < w'.heap.size
theorem RetO.retL {w w' : World} {rs : List (Rn Int)} {e : Ending} (h : RetO w rs e w') : RetL w rs e w' := by
  obtain ⟨A, n, c, h1, h2, h3, _⟩ := h
  exact ⟨A, n, c, h1, h2, h3⟩
theorem RetO.open_ {w w' : World} {rs : List (Rn Int)} {e : Ending} (n : Nat) (hn : rs.length = n) (h : RetO w rs e w') : ∃ A c, e = .returned (lv A n c) ∧ Rd w' w'.heap.size 2 A n (rnCells rs) ∧ Below w.heap.size w w' ∧ ∀ b off, A = some ⟨b, off, none⟩ → w.heap.size ≤ b ∧ b < w'.heap.size := by
  obtain ⟨A, m, c, h1, h2, h3, h4⟩ := h
  obtain rfl : m = n := by rw [← hn, h2.rlen]
  exact ⟨A, c, h1, h2, h3, h4⟩
theorem retO_of {w w' : World} {v : Value} {base : Nat} {rs : List (Rn Int)} (h : w'.ownsRow base 36 2 v rs.length (rnCells rs)) (hs : w.heap.size ≤ base) (hb : Below w.heap.size w w') : RetO w rs (.returned (.agg #[v])) w' := by
  obtain ⟨A, c, rfl, _, hR⟩ := own_form h
  exact ⟨A, _, c, rfl, hR, hb, fun b off hA => ⟨Nat.le_trans hs (h.lt b (by rw [hA]; rfl)).1, (h.lt b (by rw [hA]; rfl)).2⟩⟩
def appendL (rs ms : List (Rn Int)) : List (Rn Int) := (partL ms 0 (65536 - tot rs)).foldl pushL rs

set_option maxRecDepth 100000 in
set_option maxHeartbeats 2000000 in
theorem append_own (rs ms : List (Rn Int)) (A A2 : Option Addr) (n c m c2 B : Nat) (w : World) (hr : Rd w B 2 A n (rnCells rs)) (hr2 : Rd w B 2 A2 m (rnCells ms)) (hn : n ≤ 10000) (hm : m ≤ 10000) (hB : B ≤ w.heap.size) (hb : tot rs ≤ 65536) (hb2 : tot ms ≤ 65536) :
    Calls Try.prog 27 #[lv A n c, lv A2 m c2] w (RetO w (appendL rs ms)) := by
  have hr := hr.fits (by decide)
  have hrl := hr.rlen
  have hrl2 := hr2.rlen
  obtain ⟨t, ht⟩ : ∃ t, tot rs = t := ⟨_, rfl⟩
  have hp2 := partGo_length 0 (65536 - t) 0 ms
  have ht2 := partL_tot ms 0 (65536 - t)
  obtain ⟨P2, hP2⟩ : ∃ P2, partL ms 0 (65536 - t) = P2 := ⟨_, rfl⟩
  have hp2' : P2.length ≤ m := by rw [← hP2, ← hrl2]; exact hp2
  rw [hP2] at ht2
  have hset : appendL rs ms = P2.foldl pushL rs := by rw [appendL, ht, hP2]
  rw [hset]
  have HL := Lib.hid (fun (W : World) (h : Below w.heap.size w W) => len_any rs A n c w.heap.size W (hr.below h (Nat.le_refl _)) (by omega) t ht (by omega))
  have HC := Lib.hid (fun (W : World) (h : Below w.heap.size w W) => rclone_any A n c w.heap.size rs W (hr.below h (Nat.le_refl _)) (by omega))
  have HP2' : ∀ (W : World) (y : Int), y = 65536 - (t : Int) → Below w.heap.size w W → Calls Try.prog 38 #[lv A2 m c2, .int .i64 0, .int .i64 y] W fun e w' => ∃ v, e = .returned v ∧ w'.ownsRow W.heap.size 36 2 v P2.length (rnCells P2) ∧ Below W.heap.size W w' := by
    intro W y hy h
    have h1 := part_any ms A2 m c2 B 0 (65536 - t) W (hr2.below h hB) (by omega) (by omega) (by omega) (by omega)
    obtain ⟨q, hq⟩ : ∃ q, 65536 - t = q := ⟨_, rfl⟩
    rw [hq] at h1 hP2
    have hqy : y = (q : Int) := by omega
    subst hqy
    rw [hP2] at h1
    exact h1
  have HP2 := Lib.hid HP2'
  clear HP2'
  have HH := Lib.hid (show P2.length ≤ 10000 ∧ rs.length ≤ 10001 ∧ tot rs + tot P2 ≤ 1000000 from ⟨by omega, by omega, by omega⟩)
  have HRL := Lib.hid hrl
  have htb : t ≤ 65536 := by omega
  clear hr hr2 hrl hrl2 ht hp2 ht2 hP2 hp2' hset hb hb2
  have hz1 : (w.alloc (.cells #[.slice A n c] 38)).heap.size = w.heap.size + 1 := by simp
  have hz2 : ((w.alloc (.cells #[.slice A n c] 38)).alloc (.cells #[.slice A2 m c2] 38)).heap.size = w.heap.size + 1 + 1 := by simp
  have b0 := ((Box.alloc_ (w := w) (cs := #[.slice A n c]) (e := 38)).alloc' (.cells #[.slice A2 m c2] 38)).alloc' (.cells #[.slice none 0 0] 38)
  have b1 := (Box.alloc_ (w := w.alloc (.cells #[.slice A n c] 38)) (cs := #[.slice A2 m c2]) (e := 38)).alloc' (.cells #[.slice none 0 0] 38)
  have b2 := Box.alloc_ (w := (w.alloc (.cells #[.slice A n c] 38)).alloc (.cells #[.slice A2 m c2] 38)) (cs := #[.slice none 0 0]) (e := 38)
  have hw0 : Below w.heap.size w (((w.alloc (.cells #[.slice A n c] 38)).alloc (.cells #[.slice A2 m c2] 38)).alloc (.cells #[.slice none 0 0] 38)) := (((Below.refl _ _).alloc (Nat.le_refl _) _).alloc (by simp) _).alloc (by simp; omega) _
  have hs0 : (((w.alloc (.cells #[.slice A n c] 38)).alloc (.cells #[.slice A2 m c2] 38)).alloc (.cells #[.slice none 0 0] 38)).heap.size = w.heap.size + 3 := by simp
  rw [hz1] at b1
  rw [hz2] at b2
  clear hz1 hz2
  go_enter Try.func27, Try.ntmps27
  go_wp2_with fail
  revert b0 b1 b2 hw0 hs0
  generalize (((w.alloc (.cells #[.slice A n c] 38)).alloc (.cells #[.slice A2 m c2] 38)).alloc (.cells #[.slice none 0 0] 38)) = W0
  intro b0 b1 b2 hw0 hs0
  refine (HC.out _ hw0).mono ?_
  rintro e w1 ⟨v1, rfl, hown1, hb1⟩
  have HB0 := Lib.hid (b0.below hb1)
  have HB1 := Lib.hid (b1.below hb1)
  have HB2 := Lib.hid (b2.below hb1)
  have hbw := hw0.trans (hb1.mono hw0.size)
  have hs1 : w.heap.size + 3 ≤ w1.heap.size := by have := hb1.size; omega
  have HO1 := Lib.hid hown1
  rw [hs0] at HO1
  clear b0 b1 b2 hw0 hs0 hb1 hown1
  go_wp2_with fail
  have hS0 : (∀ i, w1.drew.cell? ⟨w.heap.size, i, none⟩ = (#[.slice A n c] : Array Value)[i]?) ∧ (∀ i, w1.drew.cell? ⟨w.heap.size + 1, i, none⟩ = (#[.slice A2 m c2] : Array Value)[i]?) ∧ True := ⟨HB0.out.1, HB1.out.1, trivial⟩
  refine rgs_start (fun w' => (∀ i, w'.cell? ⟨w.heap.size, i, none⟩ = (#[.slice A n c] : Array Value)[i]?) ∧ (∀ i, w'.cell? ⟨w.heap.size + 1, i, none⟩ = (#[.slice A2 m c2] : Array Value)[i]?) ∧ True) (by kernel_rfl) ?_
  refine rgs_t (v := ?_) (some 11) 0 (by kernel_rfl) rfl rfl (by assumption) (.inl ⟨by rfl, fun w' hw => ?_⟩) ?_
  rotate_left
  · obtain ⟨q1, q2, q3⟩ := hw; go_simp <;> with_reducible rfl
  try simp only [Act.put, List.setIfInBounds_toArray, List.set_cons_zero, List.set_cons_succ]
  refine rgs_t (v := ?_) (some 12) 1 (by kernel_rfl) rfl rfl (by assumption) (.inl ⟨by rfl, fun w' hw => ?_⟩) ?_
  rotate_left
  · obtain ⟨q1, q2, q3⟩ := hw; go_simp <;> with_reducible rfl
  try simp only [Act.put, List.setIfInBounds_toArray, List.set_cons_zero, List.set_cons_succ]
  refine rgs_t (v := ?_) (some 17) 6 (by kernel_rfl) rfl rfl (by assumption) (.inl ⟨by rfl, fun w' hw => ?_⟩) ?_
  rotate_left
  · obtain ⟨q1, q2, q3⟩ := hw; go_simp <;> with_reducible rfl
  try simp only [Act.put, List.setIfInBounds_toArray, List.set_cons_zero, List.set_cons_succ]
  refine rgs_c 2 (by kernel_rfl) rfl (by rfl) (fun K hK => ?_)
  go_simp
  refine (HL.out _ (below_drew hbw)).mono ?_
  rintro e w2 ⟨rfl, hb2⟩
  have HB02 := Lib.hid (HB0.out.drew.below hb2)
  have HB12 := Lib.hid (HB1.out.drew.below hb2)
  have HB22 := Lib.hid (HB2.out.drew.below hb2)
  have hbw2 := (below_drew hbw).trans (hb2.mono hbw.size)
  have HO2 := Lib.hid (own_below (w := w1.drew) HO1.out hb2 (Nat.le_refl _))
  have hS2 : (∀ i, w2.cell? ⟨w.heap.size, i, none⟩ = (#[.slice A n c] : Array Value)[i]?) ∧ (∀ i, w2.cell? ⟨w.heap.size + 1, i, none⟩ = (#[.slice A2 m c2] : Array Value)[i]?) ∧ True := ⟨HB02.out.1, HB12.out.1, trivial⟩
  refine hK _ _ hS2 ?_
  clear hK K
  try simp only [Act.put, List.setIfInBounds_toArray, List.set_cons_zero, List.set_cons_succ]
  refine rgs_t (v := ?_) (some 14) 3 (by kernel_rfl) rfl rfl (by assumption) (.inl ⟨by rfl, fun w' hw => ?_⟩) ?_
  rotate_left
  · obtain ⟨q1, q2, q3⟩ := hw; go_simp <;> with_reducible rfl
  try simp only [Act.put, List.setIfInBounds_toArray, List.set_cons_zero, List.set_cons_succ]
  refine rgs_c 4 (by kernel_rfl) rfl (by rfl) (fun K hK => ?_)
  go_simp
  refine (HP2.out _ _ (IntWalk.i64_in _ ⟨by omega, by omega⟩) hbw2).mono ?_
  rintro e w4 ⟨v4, rfl, hown4, hb4⟩
  obtain ⟨A4, c4, rfl, _, hR4⟩ := own_form hown4
  have HB04 := Lib.hid (HB02.out.below hb4)
  have HB14 := Lib.hid (HB12.out.below hb4)
  have HB24 := Lib.hid (HB22.out.below hb4)
  have hS4 : (∀ i, w4.cell? ⟨w.heap.size, i, none⟩ = (#[.slice A n c] : Array Value)[i]?) ∧ (∀ i, w4.cell? ⟨w.heap.size + 1, i, none⟩ = (#[.slice A2 m c2] : Array Value)[i]?) ∧ True := ⟨HB04.out.1, HB14.out.1, trivial⟩
  refine hK _ _ hS4 ?_
  clear hK K
  try simp only [Act.put, List.setIfInBounds_toArray, List.set_cons_zero, List.set_cons_succ]
  refine rgs_t (v := ?_) (some 16) 5 (by kernel_rfl) rfl rfl (by assumption) (.inl ⟨by rfl, fun w' hw => ?_⟩) ?_
  rotate_left
  · obtain ⟨q1, q2, q3⟩ := hw; go_simp <;> with_reducible rfl
  try simp only [Act.put, List.setIfInBounds_toArray, List.set_cons_zero, List.set_cons_succ]
  refine rgs_d (by kernel_rfl) ?_
  have hbw4 := hbw2.trans (hb4.mono hbw2.size)
  have hs4 := hb4.size
  have hs2 : w1.heap.size ≤ w2.heap.size := hb2.size
  have hown1 : w4.ownsRow (w.heap.size + 3) 36 2 v1 rs.length (rnCells rs) := by rw [HRL.out]; exact own_below HO2.out hb4 (Nat.le_refl _)
  have hne4 : ∀ b off, A4 = some ⟨b, off, none⟩ → some b ≠ v1.ownBlock := by
    intro b off hA hh
    have h1 := (hown4.lt b (by rw [hA]; rfl)).1
    have h2 := (HO2.out.lt b hh.symm).2
    have h3 : v1.ownBlock = some b := hh.symm
    omega
  have hC4 := HB24.out
  clear HO1 HO2 HB0 HB1 HB2 HB02 HB12 HB22 HB04 HB14 HB24 hS0 hS2 hS4 hown4 hb4 hb2 hbw hbw2 HL HC HP2 HRL
  obtain ⟨hh1, hh2, hh3⟩ := HH.out
  go_wp2_with fail
  go_loopw [5, 17] (fun v i wr => ∃ j : Nat, j ≤ P2.length ∧ i = .int .i64 j ∧ wr.ownsRow (w.heap.size + 3) 36 2 v ((P2.take j).foldl pushL rs).length (rnCells ((P2.take j).foldl pushL rs)) ∧ (∀ b off, A4 = some ⟨b, off, none⟩ → some b ≠ v.ownBlock) ∧ Rd wr w4.heap.size 2 A4 P2.length (rnCells P2) ∧ Box wr (w.heap.size + 1 + 1) #[.slice none 0 0] ∧ w4.heap.size ≤ wr.heap.size ∧ Below w.heap.size w wr) (fun _ i _ => P2.length - (intOf i).toNat)
  case atStart => exact ⟨0, by omega, rfl, hown1, hne4, hR4, hC4, Nat.le_refl _, hbw4⟩
  case round =>
    obtain ⟨j, hj, rfl, hown, hne, hR, hC, hsw, hbr⟩ := hrel
    clear hown1 hne4 hR4 hC4 hbw4
    by_cases hlt : j < P2.length
    · obtain ⟨b0, o0, rfl, hb0, hj', c0, c1⟩ := rn_cells hR j hlt
      have hstep := foldl_take_succ pushL rs P2 j hlt
      have hl1 := foldl_push_length (P2.take j) rs
      have hl2 : (P2.take j).length ≤ j := List.length_take_le _ _
      have ht1 := foldl_push_tot (P2.take j) rs
      have ht2 := tot_snoc P2 j hlt
      have ht3 := tot_take P2 (j + 1)
      have HPU := Lib.hid (fun (W : World) (h : W.ownsRow (w.heap.size + 3) 36 2 u5 ((P2.take j).foldl pushL rs).length (rnCells ((P2.take j).foldl pushL rs))) (hbs : w.heap.size + 3 ≤ W.heap.size) => push_any u5 _ (w.heap.size + 3) _ P2[j] W h hbs (by omega) (by omega))
      rw [← hstep] at HPU
      have HO := Lib.hid hown
      have HR' := Lib.hid hR
      have HC' := Lib.hid hC
      have HNE := Lib.hid hne
      clear hstep hl1 hl2 ht1 ht2 ht3 hown hR hC hne
      go_wp2_with fail
      refine (HPU.out _ (own_box HO.out _) (by simp; omega)).mono ?_
      intro e w5 hpu
      obtain ⟨v5, rfl, hown5, hg5, hn5⟩ := hpu
      have hne5 : ∀ b off, some (⟨b0, o0, none⟩ : Addr) = some ⟨b, off, none⟩ → some b ≠ v5.ownBlock := by
        intro b off hA
        injection hA with hA
        injection hA with hA _
        subst hA
        rcases hn5 with h | ⟨g, h, hg⟩
        · rw [h]; exact HNE.out _ _ rfl
        · rw [h]; intro hh; injection hh with hh; simp at hg; omega
      have hR5 := (HR'.out.alloc' (.cells #[.int .i64 P2[j].1, .int .i64 P2[j].2] 36) hsw).off_row hg5 (by simp; omega) (fun b off hA => by injection hA with hA; injection hA with hA _; subst hA; exact HNE.out _ _ rfl)
      have hC5 := (HC'.out.alloc' (.cells #[.int .i64 P2[j].1, .int .i64 P2[j].2] 36)).row hg5 (ne_row HO.out (by omega))
      have hb5 := below_row (hbr.alloc hbr.size (.cells #[.int .i64 P2[j].1, .int .i64 P2[j].2] 36)) (own_box HO.out _) hg5 (by omega) (by have := hbr.size; simp; omega)
      have hs5 : w4.heap.size ≤ w5.heap.size := by have := hg5.size; simp at this; omega
      clear hg5 hn5 HPU
      go_wp2
      exact ⟨⟨j + 1, by omega, by go_num, hown5, hne5, hR5, hC5, hs5, hb5⟩, by simp [intOf]; omega⟩
    · obtain rfl : j = P2.length := by omega
      rw [List.take_of_length_le (Nat.le_refl _)] at hown
      obtain ⟨A5, c5, hv5, _, _⟩ := own_form hown
      subst hv5
      have HO := Lib.hid hown
      obtain ⟨q2, z2, l2⟩ := hC
      clear hown hne hR
      go_wp2
      refine bodyPost_ret (v := lv A5 (P2.foldl pushL rs).length c5) (by simp [results, Try.results27, go_sem, q2, z2, l2]) rfl ?_
      exact retO_of (ownsRow_setCell_below HO.out (show w.heap.size + 1 + 1 < w.heap.size + 3 by omega) _) (by omega) (hbr.setCell (by show w.heap.size ≤ w.heap.size + 1 + 1; omega) _)
theorem append_any (rs ms : List (Rn Int)) (A A2 : Option Addr) (n c m c2 B : Nat) (w : World) (hr : Rd w B 2 A n (rnCells rs)) (hr2 : Rd w B 2 A2 m (rnCells ms)) (hn : n ≤ 10000) (hm : m ≤ 10000) (hB : B ≤ w.heap.size) (hb : tot rs ≤ 65536) (hb2 : tot ms ≤ 65536) :
    Calls Try.prog 27 #[lv A n c, lv A2 m c2] w (RetL w (appendL rs ms)) :=
  (append_own rs ms A A2 n c m c2 B w hr hr2 hn hm hB hb hb2).mono fun _ _ h => h.retL
end Go.Proofs.Ytjbbkhoonenfjaa

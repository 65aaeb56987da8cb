/- Layer 5: contracts of setting.Compare, List and of the reference's Less, List. -/
import Derived.Test.YtjpljjhnjholdaaBox
import Derived.Test.YtjpljjhnjholdaaSetR
import Derived.Test.YtjpljjhnjholdaaRegQ
set_option linter.unusedVariables false
set_option linter.unusedSimpArgs false
namespace Go.Proofs.Ytjpljjhnjholdaa
open Go.RowKit

abbrev St := Int × Int
def cmpZ (a b : Int) : Int := if a < b then -1 else if b < a then 1 else 0
def stLess (a b : St) : Bool := decide (a.1 < b.1 ∨ a.1 = b.1 ∧ a.2 < b.2)
def cmpS (a b : St) : Int := if cmpZ a.1 b.1 ≠ 0 then cmpZ a.1 b.1 else cmpZ a.2 b.2
theorem cmpZ_bd (a b : Int) : -1 ≤ cmpZ a b ∧ cmpZ a b ≤ 1 := by unfold cmpZ; split; omega; split <;> omega
theorem cmpS_bd (a b : St) : -1 ≤ cmpS a b ∧ cmpS a b ≤ 1 := by unfold cmpS; split <;> exact cmpZ_bd _ _
theorem cmpS_less (a b : St) : decide (0 ≤ cmpS a b) = !(stLess a b) := by
  unfold cmpS stLess cmpZ
  by_cases h1 : a.1 < b.1
  · simp [h1]
  · by_cases h2 : b.1 < a.1
    · have : ¬ (a.1 = b.1) := by omega
      simp [h1, h2, this]
    · have : a.1 = b.1 := by omega
      by_cases h3 : a.2 < b.2
      · simp [this, h3]
      · by_cases h4 : b.2 < a.2
        · simp [this, h3, h4]
        · simp [this, h3, h4]

theorem cmp_any (a b c : Int) (h : cmpZ a b = c) (w : World) : Calls Try.prog 44 #[.int .i64 a, .int .i64 b] w fun e w' => e = .returned (.int .i64 c) ∧ w = w' := by
  subst h
  have ha : (a != a) = false := by simp
  have hb : (b != b) = false := by simp
  by_cases h1 : a < b
  · have e : cmpZ a b = -1 := if_pos h1
    rw [e]
    go_enter Try.func44, Try.ntmps44
    go_wp2
    go_ret
    exact ⟨rfl, rfl⟩
  · by_cases h2 : b < a
    · have e : cmpZ a b = 1 := by rw [cmpZ, if_neg h1, if_pos h2]
      rw [e]
      go_enter Try.func44, Try.ntmps44
      go_wp2
      go_ret
      exact ⟨rfl, rfl⟩
    · have e : cmpZ a b = 0 := by rw [cmpZ, if_neg h1, if_neg h2]
      rw [e]
      go_enter Try.func44, Try.ntmps44
      go_wp2
      go_ret
      exact ⟨rfl, rfl⟩

theorem or_any (x y r : Int) (A : Option Addr) (c B : Nat) (w : World) (hr : Rd w B 1 A 2 (i64s [x, y])) (h : (if x ≠ 0 then x else y) = r) : Calls Try.prog 43 #[.slice A 2 c] w fun e w' => e = .returned (.int .i64 r) ∧ w = w' := by
  obtain ⟨b, off, rfl, _, hc⟩ := hr.2 (by omega)
  have c0 := hc 0 _ rfl
  have c1 := hc 1 _ rfl
  rw [Nat.add_zero] at c0
  clear hc hr
  go_enter Try.func43, Try.ntmps43
  go_wp2
  go_loop [8] (fun i => (i = .int .i64 0) ∨ (i = .int .i64 1 ∧ x = 0) ∨ (i = .int .i64 2 ∧ x = 0 ∧ y = 0)) (fun i => 2 - (intOf i).toNat)
  case atStart => exact .inl rfl
  case round =>
    rcases hrel with rfl | ⟨rfl, hx⟩ | ⟨rfl, hx, hy⟩
    · by_cases hx : x = 0
      · have hd : (x != 0) = false := by simp [hx]
        have HX := Lib.hid hx
        clear hx
        go_wp2
        exact ⟨.inr (.inl ⟨rfl, HX.out⟩), by simp [intOf]⟩
      · have hd : (x != 0) = true := by simp [hx]
        rw [if_pos hx] at h
        have HH := Lib.hid h
        clear hx h
        go_wp2
        go_ret
        exact ⟨by rw [← HH.out]; rfl, rfl⟩
    · rw [if_neg (by simp [hx])] at h
      have HX := Lib.hid hx
      have HH := Lib.hid h
      clear hx h
      by_cases hy : y = 0
      · have hd : (y != 0) = false := by simp [hy]
        have HY := Lib.hid hy
        clear hy
        go_wp2
        exact ⟨.inr (.inr ⟨rfl, HX.out, HY.out⟩), by simp [intOf]⟩
      · have hd : (y != 0) = true := by simp [hy]
        clear hy
        go_wp2
        go_ret
        exact ⟨by rw [← HH.out]; rfl, rfl⟩
    · rw [if_neg (by simp [hx]), hy] at h
      have HH := Lib.hid h
      clear hx hy h
      go_wp2
      go_ret
      exact ⟨by rw [← HH.out]; rfl, rfl⟩

set_option maxHeartbeats 1000000 in
theorem compare_any (a b : St) (c : Int) (hc : cmpS a b = c) (w : World) : Calls Try.prog 39 #[.agg #[.int .i64 a.1, .int .i64 a.2], .agg #[.int .i64 b.1, .int .i64 b.2]] w fun e w' => e = .returned (.int .i64 c) ∧ Below w.heap.size w w' := by
  obtain ⟨a1, a2⟩ := a
  obtain ⟨b1, b2⟩ := b
  obtain ⟨x, hx⟩ : ∃ x, cmpZ a1 b1 = x := ⟨_, rfl⟩
  obtain ⟨y, hy⟩ : ∃ y, cmpZ a2 b2 = y := ⟨_, rfl⟩
  have hr : (if x ≠ 0 then x else y) = c := by rw [← hc, cmpS]; simp only [hx, hy]
  have H1 := Lib.hid (fun w => cmp_any a1 b1 x hx w)
  have H2 := Lib.hid (fun w => cmp_any a2 b2 y hy w)
  have HR := Lib.hid hr
  clear hx hy hr hc
  go_enter Try.func39, Try.ntmps39
  go_wp2_with fail
  obtain ⟨W0, hW0⟩ : ∃ W0, (w.alloc (.cells #[.int .i64 a1, .int .i64 a2] 49)).alloc (.cells #[.int .i64 b1, .int .i64 b2] 49) = W0 := ⟨_, rfl⟩
  have hB1 : Box W0 w.heap.size #[.int .i64 a1, .int .i64 a2] := hW0 ▸ Box.alloc' Box.alloc_ _
  have hB2 : Box W0 (w.heap.size + 1) #[.int .i64 b1, .int .i64 b2] := hW0 ▸ (by have := Box.alloc_ (w := w.alloc (.cells #[.int .i64 a1, .int .i64 a2] 49)) (cs := #[.int .i64 b1, .int .i64 b2]) (e := 49); simpa using this)
  have hbw : Below w.heap.size w W0 := hW0 ▸ ((Below.refl _ _).alloc (Nat.le_refl _) _).alloc (by simp) _
  rw [hW0]
  clear hW0
  have hS : (∀ i, W0.drew.cell? ⟨w.heap.size, i, none⟩ = (#[.int .i64 a1, .int .i64 a2] : Array Value)[i]?) ∧ (∀ i, W0.drew.cell? ⟨w.heap.size + 1, i, none⟩ = (#[.int .i64 b1, .int .i64 b2] : Array Value)[i]?) ∧ True := ⟨hB1.1, hB2.1, trivial⟩
  refine rgs_start (fun w' => (∀ i, w'.cell? ⟨w.heap.size, i, none⟩ = (#[.int .i64 a1, .int .i64 a2] : Array Value)[i]?) ∧ (∀ i, w'.cell? ⟨w.heap.size + 1, i, none⟩ = (#[.int .i64 b1, .int .i64 b2] : Array Value)[i]?) ∧ True) (by kernel_rfl) ?_
  refine rgs_t (v := ?_) (some 5) 0 (by kernel_rfl) rfl rfl (by assumption) (.inl ⟨by rfl, fun w' hw => ?_⟩) ?_
  rotate_left
  · obtain ⟨q1, q2, q3⟩ := hw; go_simp <;> with_reducible rfl
  try simp only [Act.put, List.setIfInBounds_toArray, List.set_cons_zero, List.set_cons_succ]
  refine rgs_t (v := ?_) (some 6) 1 (by kernel_rfl) rfl rfl (by assumption) (.inl ⟨by rfl, fun w' hw => ?_⟩) ?_
  rotate_left
  · obtain ⟨q1, q2, q3⟩ := hw; go_simp <;> with_reducible rfl
  try simp only [Act.put, List.setIfInBounds_toArray, List.set_cons_zero, List.set_cons_succ]
  refine rgs_t (v := ?_) (some 7) 2 (by kernel_rfl) rfl rfl (by assumption) (.inl ⟨by rfl, fun w' hw => ?_⟩) ?_
  rotate_left
  · obtain ⟨q1, q2, q3⟩ := hw; go_simp <;> with_reducible rfl
  try simp only [Act.put, List.setIfInBounds_toArray, List.set_cons_zero, List.set_cons_succ]
  refine rgs_t (v := ?_) (some 8) 3 (by kernel_rfl) rfl rfl (by assumption) (.inl ⟨by rfl, fun w' hw => ?_⟩) ?_
  rotate_left
  · obtain ⟨q1, q2, q3⟩ := hw; go_simp <;> with_reducible rfl
  try simp only [Act.put, List.setIfInBounds_toArray, List.set_cons_zero, List.set_cons_succ]
  refine rgs_q (v := ?_) (some 9) 4 (by kernel_rfl) rfl rfl (by assumption) (by rfl) (fun w' hw K hK => ?_) ?_
  rotate_left
  · obtain ⟨q1, q2, q3⟩ := hw
    go_simp
    refine (H1.out _).mono ?_
    rintro e w1 ⟨rfl, rfl⟩
    exact hK
  try simp only [Act.put, List.setIfInBounds_toArray, List.set_cons_zero, List.set_cons_succ]
  refine rgs_t (v := ?_) (some 10) 5 (by kernel_rfl) rfl rfl (by assumption) (.inl ⟨by rfl, fun w' hw => ?_⟩) ?_
  rotate_left
  · obtain ⟨q1, q2, q3⟩ := hw; go_simp <;> with_reducible rfl
  try simp only [Act.put, List.setIfInBounds_toArray, List.set_cons_zero, List.set_cons_succ]
  refine rgs_t (v := ?_) (some 11) 6 (by kernel_rfl) rfl rfl (by assumption) (.inl ⟨by rfl, fun w' hw => ?_⟩) ?_
  rotate_left
  · obtain ⟨q1, q2, q3⟩ := hw; go_simp <;> with_reducible rfl
  try simp only [Act.put, List.setIfInBounds_toArray, List.set_cons_zero, List.set_cons_succ]
  refine rgs_t (v := ?_) (some 12) 7 (by kernel_rfl) rfl rfl (by assumption) (.inl ⟨by rfl, fun w' hw => ?_⟩) ?_
  rotate_left
  · obtain ⟨q1, q2, q3⟩ := hw; go_simp <;> with_reducible rfl
  try simp only [Act.put, List.setIfInBounds_toArray, List.set_cons_zero, List.set_cons_succ]
  refine rgs_t (v := ?_) (some 13) 8 (by kernel_rfl) rfl rfl (by assumption) (.inl ⟨by rfl, fun w' hw => ?_⟩) ?_
  rotate_left
  · obtain ⟨q1, q2, q3⟩ := hw; go_simp <;> with_reducible rfl
  try simp only [Act.put, List.setIfInBounds_toArray, List.set_cons_zero, List.set_cons_succ]
  refine rgs_q (v := ?_) (some 14) 9 (by kernel_rfl) rfl rfl (by assumption) (by rfl) (fun w' hw K hK => ?_) ?_
  rotate_left
  · obtain ⟨q1, q2, q3⟩ := hw
    go_simp
    refine (H2.out _).mono ?_
    rintro e w1 ⟨rfl, rfl⟩
    exact hK
  try simp only [Act.put, List.setIfInBounds_toArray, List.set_cons_zero, List.set_cons_succ]
  refine rgs_c 10 (by kernel_rfl) rfl (by rfl) (fun K hK => ?_)
  go_simp
  rw [show (W0.alloc (.cells #[.int .i64 x, .int .i64 y] 3)).drew = W0.drew.alloc (.cells #[.int .i64 x, .int .i64 y] 3) from rfl]
  have hS2 : (∀ i, (W0.drew.alloc (.cells #[.int .i64 x, .int .i64 y] 3)).cell? ⟨w.heap.size, i, none⟩ = (#[.int .i64 a1, .int .i64 a2] : Array Value)[i]?) ∧ (∀ i, (W0.drew.alloc (.cells #[.int .i64 x, .int .i64 y] 3)).cell? ⟨w.heap.size + 1, i, none⟩ = (#[.int .i64 b1, .int .i64 b2] : Array Value)[i]?) ∧ True := ⟨(hB1.drew.alloc' _).1, (hB2.drew.alloc' _).1, trivial⟩
  have hRd : Rd (W0.drew.alloc (.cells #[.int .i64 x, .int .i64 y] 3)) (W0.heap.size + 1) 1 (some ⟨W0.heap.size, 0, none⟩) 2 (i64s [x, y]) := Rd.lit (w := W0.drew) (cs := #[.int .i64 x, .int .i64 y]) rfl (Nat.lt_succ_self _)
  have hbw2 := (below_drew hbw).alloc hbw.size (.cells #[.int .i64 x, .int .i64 y] 3)
  refine hK _ _ hS2 ?_
  clear hK K
  try simp only [Act.put, List.setIfInBounds_toArray, List.set_cons_zero, List.set_cons_succ]
  refine rgs_c 11 (by kernel_rfl) rfl (by rfl) (fun K hK => ?_)
  go_simp
  refine (or_any x y c _ 2 _ _ hRd HR.out).mono ?_
  rintro e w1 ⟨rfl, rfl⟩
  refine hK _ _ hS2 ?_
  clear hK K
  try simp only [Act.put, List.setIfInBounds_toArray, List.set_cons_zero, List.set_cons_succ]
  refine rgs_t (v := ?_) (some 4) 12 (by kernel_rfl) rfl rfl (by assumption) (.inl ⟨by rfl, fun w' hw => ?_⟩) ?_
  rotate_left
  · obtain ⟨q1, q2, q3⟩ := hw; go_simp <;> with_reducible rfl
  try simp only [Act.put, List.setIfInBounds_toArray, List.set_cons_zero, List.set_cons_succ]
  refine rgs_d (by kernel_rfl) ?_
  go_wp2
  go_ret
  exact ⟨rfl, hbw2⟩

theorem less_any (a b : St) (c : Bool) (hc : stLess a b = c) (w : World) : Calls Try.prog 34 #[.agg #[.int .i64 a.1, .int .i64 a.2], .agg #[.int .i64 b.1, .int .i64 b.2]] w fun e w' => e = .returned (.bool c) ∧ Below w.heap.size w w' := by
  obtain ⟨a1, a2⟩ := a
  obtain ⟨b1, b2⟩ := b
  simp only [stLess] at hc
  have hbw : Below w.heap.size w ((w.alloc (.cells #[.int .i64 a1, .int .i64 a2] 49)).alloc (.cells #[.int .i64 b1, .int .i64 b2] 49)) := ((Below.refl _ _).alloc (Nat.le_refl _) _).alloc (by simp) _
  by_cases h1 : a1 < b1
  · obtain rfl : c = true := by rw [← hc]; simp [h1]
    clear hc
    go_enter Try.func34, Try.ntmps34
    go_wp2
    go_ret
    exact ⟨rfl, hbw⟩
  · by_cases h2 : a1 = b1
    · have hd : (a1 == b1) = true := by simpa using h2
      by_cases h3 : a2 < b2
      · obtain rfl : c = true := by rw [← hc]; simp [h2, h3]
        clear hc h2
        go_enter Try.func34, Try.ntmps34
        go_wp2
        go_ret
        exact ⟨rfl, hbw⟩
      · obtain rfl : c = false := by rw [← hc]; simp [h2, h3]
        clear hc h2
        go_enter Try.func34, Try.ntmps34
        go_wp2
        go_ret
        exact ⟨rfl, hbw⟩
    · have hd : (a1 == b1) = false := by simpa using h2
      obtain rfl : c = false := by rw [← hc]; simp [h1, h2]
      clear hc h2
      go_enter Try.func34, Try.ntmps34
      go_wp2
      go_ret
      exact ⟨rfl, hbw⟩

/-! ### lists of settings -/
def pOk (p : Option St) (s : St) : Bool := match p with | none => true | some q => stLess q s
def okS : Option St → List St → Bool
  | _, [] => true
  | p, s :: l => validB s.1 s.2 && pOk p s && okS (some s) l
def listB (l : List St) : Bool := okS none l && decide (1 ≤ l.length ∧ l.length ≤ 6)
def prevS (l : List St) (k : Nat) : Option St := if k = 0 then none else l[k - 1]?
theorem okS_step (l : List St) (k : Nat) (hk : k < l.length) : okS (prevS l k) (l.drop k) = (validB l[k].1 l[k].2 && pOk (prevS l k) l[k] && okS (prevS l (k + 1)) (l.drop (k + 1))) := by
  rw [List.drop_eq_getElem_cons hk]
  show (validB l[k].1 l[k].2 && pOk (prevS l k) l[k] && okS (some l[k]) (l.drop (k + 1))) = _
  have : prevS l (k + 1) = some l[k] := by rw [prevS, if_neg (by omega), Nat.add_sub_cancel, List.getElem?_eq_getElem hk]
  rw [this]
/-- The cells of setting k. -/
theorem st_cells {w : World} {B n : Nat} {A : Option Addr} {l : List St} (h : Rd w B 2 A n (stCells l)) (hl : l.length = n) (k : Nat) (hk : k < n) :
    ∃ b off, A = some ⟨b, off, none⟩ ∧ b < B ∧ ∃ hk' : k < l.length, w.cell? ⟨b, off + k * 2, none⟩ = some (.int .i64 l[k].1) ∧ w.cell? ⟨b, off + k * 2 + 1, none⟩ = some (.int .i64 l[k].2) := by
  obtain ⟨b, off, e, hb, hc⟩ := h.2 (by omega)
  obtain ⟨h0, h1⟩ := st_get0 l k (by omega)
  exact ⟨b, off, e, hb, by omega, hc _ _ h0, hc _ _ h1⟩
end Go.Proofs.Ytjpljjhnjholdaa

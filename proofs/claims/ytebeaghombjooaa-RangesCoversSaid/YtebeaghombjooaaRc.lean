/- Layer 12: contracts of ranges.Count, slices.IndexFunc, slices.ContainsFunc at ranges, ranges.Has, ranges.Covers. -/
import Derived.Test.YtebeaghombjooaaRb
import Derived.Shelf.Abstract
set_option linter.unusedVariables false
set_option linter.unusedSimpArgs false
namespace Go.Proofs.Ytebeaghombjooaa
open Go.RowKit

def sumL : List Rg → Int
  | [] => 0
  | r :: t => r.2 + sumL t
theorem sumL_append (a b : List Rg) : sumL (a ++ b) = sumL a + sumL b := by
  induction a with
  | nil => simp [sumL]
  | cons r t ih => simp only [List.cons_append, sumL, ih]; omega
theorem validGo_mem (e : Int) (l : List Rg) (he : 0 ≤ e) (h : validGo e l = true) : ∀ r ∈ l, e ≤ r.1 ∧ r.1 < 65536 ∧ 1 ≤ r.2 ∧ r.1 + r.2 ≤ 65536 := by
  induction l generalizing e with
  | nil => intro r hr; cases hr
  | cons x t ih =>
    simp only [validGo, okR, Bool.and_eq_true, decide_eq_true_eq] at h
    obtain ⟨h1, h2⟩ := h
    intro r hr
    rcases List.mem_cons.1 hr with rfl | hr
    · omega
    · have := ih _ (by omega) h2 r hr; omega
theorem setL_valid (l : List Rg) : validL (setL l) = true := by
  unfold setL; split
  · assumption
  · rfl
theorem setL_mem (l : List Rg) : ∀ r ∈ setL l, 0 ≤ r.1 ∧ r.1 < 65536 ∧ 1 ≤ r.2 ∧ r.1 + r.2 ≤ 65536 := validGo_mem 0 _ (by omega) (setL_valid l)
theorem validGo_sum (e : Int) (l : List Rg) (he : 0 ≤ e) (he2 : e ≤ 65537) (h : validGo e l = true) (k : Nat) : 0 ≤ sumL (l.take k) ∧ sumL (l.take k) ≤ 65537 - e := by
  induction l generalizing e k with
  | nil => simp [sumL]; omega
  | cons x t ih =>
    simp only [validGo, okR, Bool.and_eq_true, decide_eq_true_eq] at h
    obtain ⟨h1, h2⟩ := h
    cases k with
    | zero => simp [sumL]; omega
    | succ k =>
      have := ih (x.1 + x.2 + 1) (by omega) (by omega) h2 k
      simp only [List.take_succ_cons, sumL]
      omega
theorem setL_len (l : List Rg) : (setL l).length ≤ l.length := by unfold setL; split <;> simp

set_option maxHeartbeats 1000000 in
theorem count_any (l : List Rg) (A : Option Addr) (n c B : Nat) (w : World) (hr : Rd w B 2 A n (rgCells l)) (hn : n ≤ 4611686018427387904) (s : Int) (hs : sumL (setL l) = s) :
    Calls Try.prog 19 #[.slice A n c] w fun e w' => e = .returned (.int .i64 s) ∧ Below w.heap.size w w' := by
  have HS := Lib.hid (set_any l A n c B w hr hn)
  have hsum := fun k => validGo_sum 0 (setL l) (by omega) (by omega) (setL_valid l) k
  obtain ⟨l', hl'⟩ : ∃ l', setL l = l' := ⟨_, rfl⟩
  rw [hl'] at hs hsum
  have HE := Lib.hid hs
  have HL := Lib.hid hl'
  clear hr hs hl'
  go_enter Try.func19, Try.ntmps19
  go_wp2_with fail
  refine HS.out.mono ?_
  rintro e w1 ⟨⟨A1, n1, c1, rfl, hn1, hR1⟩, hb1⟩
  rw [HL.out] at hR1
  have hR1 := hR1.fits (by decide)
  have hl1 := hR1.glen
  have HR := Lib.hid hR1
  have HL1 := Lib.hid hl1
  clear hR1 hl1
  go_wp2
  go_loopw [3, 9] (fun f i wr => ∃ (k : Nat), k ≤ n1 ∧ i = .int .i64 k ∧ f = .int .i64 (sumL (l'.take k)) ∧ Below w1.heap.size w1 wr) (fun _ i _ => n1 - (intOf i).toNat)
  case atStart => exact ⟨0, by omega, rfl, rfl, Below.refl _ _⟩
  case round =>
    obtain ⟨k, hk, rfl, rfl, hbw⟩ := hrel
    by_cases hlt : k < n1
    · obtain ⟨b, off, rfl, hbl, hk', c0, c1⟩ := rg_cells (HR.out.below hbw (Nat.le_refl _)) k hlt
      have hst : sumL (l'.take (k + 1)) = sumL (l'.take k) + l'[k].2 := by
        rw [List.take_succ_eq_append_getElem hk', sumL_append]; simp [sumL]
      have hs1 := hsum k
      have hs2 := hsum (k + 1)
      rw [hst] at hs2
      obtain ⟨⟨r1, r2⟩, hrv⟩ : ∃ r, l'[k] = r := ⟨_, rfl⟩
      rw [hrv] at hst hs2 c0 c1
      simp only at c0 c1 hst hs2
      have HST := Lib.hid hst
      clear hst hrv hsum
      go_wp2
      exact ⟨⟨k + 1, by omega, by go_num, by rw [HST.out], hbw.alloc hbw.size _⟩, by simp [intOf]; omega⟩
    · obtain rfl : k = n1 := by omega
      go_wp2
      go_ret
      exact ⟨by rw [List.take_of_length_le (by rw [HL1.out]; omega), HE.out]; rfl, ext_trans hb1 hbw⟩

abbrev rgV (r : Rg) : Value := .agg #[.int .i64 r.1, .int .i64 r.2]
/-- A closure that says p of a range, in every later world. -/
def PredR (g : FuncId) (lb0 : Value) (p : Rg → Bool) (w : World) (l : List Rg) : Prop :=
  ∀ r ∈ l, ∀ W, Below w.heap.size w W → Calls Try.prog g #[rgV r, lb0] W fun e W' => e = .returned (.bool (p r)) ∧ Below W.heap.size W W'
set_option maxHeartbeats 1000000 in
theorem indexFunc_any (g : FuncId) (lb0 : Value) (eg : ∀ args w, (callFunc g args).run Try.prog w = .ok (.enter g args) w) (p : Rg → Bool) (l : List Rg) (A : Option Addr) (n c B : Nat) (w : World) (hr : Rd w B 2 A n (rgCells l)) (hn : n ≤ 4611686018427387904)
    (hp : PredR g lb0 p w l) :
    Calls Try.prog 48 #[.slice A n c, .func (.func g) #[] #[lb0]] w fun e w' => (∃ k : Int, e = .returned (.int .i64 k) ∧ -1 ≤ k ∧ decide (0 ≤ k) = l.any p) ∧ Below w.heap.size w w' := by
  have hr := hr.fits (by decide)
  have hl := hr.glen
  have HR := Lib.hid hr
  have HL := Lib.hid hl
  have HP := Lib.hid hp
  clear hr hl hp
  go_enter Try.func48, Try.ntmps48
  go_wp2
  go_loopw [5, 8] (fun _ i wr => ∃ (k : Nat), k ≤ n ∧ i = .int .i64 k ∧ l.any p = (l.drop k).any p ∧ Below w.heap.size w wr) (fun _ i _ => n - (intOf i).toNat)
  case atStart => exact ⟨0, by omega, rfl, rfl, Below.refl _ _⟩
  case round =>
    obtain ⟨k, hk, rfl, hinv, hbw⟩ := hrel
    by_cases hlt : k < n
    · obtain ⟨b, off, rfl, hbl, hk', c0, c1⟩ := rg_cells (HR.out.below hbw (Nat.le_refl _)) k hlt
      rw [drop_step l k hk', List.any_cons] at hinv
      obtain ⟨r, hrv⟩ : ∃ r, l[k] = r := ⟨_, rfl⟩
      have hcall := HP.out l[k] (List.getElem_mem _) wr hbw
      rw [hrv] at hinv c0 c1 hcall
      obtain ⟨r1, r2⟩ := r
      simp only [rgV] at c0 c1 hcall
      have HI := Lib.hid hinv
      have HC := Lib.hid hcall
      have HB := Lib.hid hbw
      clear hinv hcall hbw hrv
      obtain ⟨q, hq⟩ : ∃ q, p (r1, r2) = q := ⟨_, rfl⟩
      rw [hq] at HI HC
      clear hq
      cases q
      · go_wp2_with (go_at_fn g; refine (HC.out).mono ?_; rintro e w1 ⟨rfl, hb1⟩)
        exact ⟨⟨k + 1, by omega, by go_num, by rw [HI.out]; rfl, ext_trans HB.out hb1⟩, by simp [intOf]; omega⟩
      · go_wp2_with (go_at_fn g; refine (HC.out).mono ?_; rintro e w1 ⟨rfl, hb1⟩)
        go_ret
        exact ⟨⟨k, rfl, by omega, by rw [HI.out]; simp⟩, ext_trans HB.out hb1⟩
    · obtain rfl : k = n := by omega
      rw [List.drop_of_length_le (by rw [HL.out]; omega)] at hinv
      have HI := Lib.hid hinv
      clear hinv
      go_wp2
      go_ret
      exact ⟨⟨-1, rfl, by omega, by rw [HI.out]; rfl⟩, hbw⟩
set_option maxHeartbeats 1000000 in
theorem containsFunc_any (g : FuncId) (lb0 : Value) (eg : ∀ args w, (callFunc g args).run Try.prog w = .ok (.enter g args) w) (p : Rg → Bool) (l : List Rg) (A : Option Addr) (n c B : Nat) (w : World) (hr : Rd w B 2 A n (rgCells l)) (hn : n ≤ 4611686018427387904)
    (hp : PredR g lb0 p w l) :
    Calls Try.prog 41 #[.slice A n c, .func (.func g) #[] #[lb0]] w fun e w' => e = .returned (.bool (l.any p)) ∧ Below w.heap.size w w' := by
  have hi := indexFunc_any g lb0 eg p l A n c B w hr hn hp
  obtain ⟨q, hq⟩ : ∃ q, l.any p = q := ⟨_, rfl⟩
  rw [hq] at hi ⊢
  have HI := Lib.hid hi
  clear hr hp hi hq
  go_enter Try.func41, Try.ntmps41
  go_wp2_with fail
  refine HI.out.mono ?_
  rintro e w1 ⟨⟨k, rfl, hk1, hk2⟩, hb1⟩
  go_wp2
  go_ret
  exact ⟨rfl, hb1⟩

set_option maxHeartbeats 1000000 in
theorem has1_any (r : Rg) (a : Int) (g : Nat) (w : World) (hc : w.cell? ⟨g, 0, none⟩ = some (.int .i64 a)) (hg : g < w.heap.size) (h : 0 ≤ r.1 ∧ r.1 < 65536 ∧ 1 ≤ r.2 ∧ r.1 + r.2 ≤ 65536) :
    Calls Try.prog 42 #[rgV r, .pointer (some ⟨g, 0, none⟩)] w fun e w' => e = .returned (.bool (inR a r)) ∧ Below w.heap.size w w' := by
  obtain ⟨r1, r2⟩ := r
  obtain ⟨h1, h2, h3, h4⟩ := h
  simp only [rgV] at h1 h2 h3 h4 ⊢
  by_cases k1 : r1 ≤ a
  · by_cases k2 : a < r1 + r2
    · have hz : inR a (r1, r2) = true := by simp [inR]; omega
      rw [hz]
      clear hz
      go_enter Try.func42, Try.ntmps42
      go_wp2
      go_ret
      exact ⟨rfl, (Below.refl _ _).alloc (Nat.le_refl _) _⟩
    · have hz : inR a (r1, r2) = false := by simp [inR]; omega
      have k2' : decide (a < r1 + r2) = false := by simp; omega
      rw [hz]
      clear hz k2
      go_enter Try.func42, Try.ntmps42
      go_wp2
      go_ret
      exact ⟨rfl, (Below.refl _ _).alloc (Nat.le_refl _) _⟩
  · have hz : inR a (r1, r2) = false := by simp [inR]; omega
    have k1' : decide (r1 ≤ a) = false := by simp; omega
    rw [hz]
    clear hz k1
    go_enter Try.func42, Try.ntmps42
    go_wp2
    go_ret
    exact ⟨rfl, (Below.refl _ _).alloc (Nat.le_refl _) _⟩

set_option maxHeartbeats 1000000 in
theorem has_any (l : List Rg) (A : Option Addr) (n c B : Nat) (a : Int) (w : World) (hr : Rd w B 2 A n (rgCells l)) (hn : n ≤ 4611686018427387904) (r : Bool) (hv : inL (setL l) a = r) :
    Calls Try.prog 20 #[.slice A n c, .int .i64 a] w fun e w' => e = .returned (.bool r) ∧ Below w.heap.size w w' := by
  have hr := hr.fits (by decide)
  have HS := Lib.hid (fun (W : World) (h : Below w.heap.size w W) => set_any l A n c w.heap.size W (hr.below h (Nat.le_refl _)) hn)
  have HV := Lib.hid hv
  have hbx := Box.alloc_ (w := w) (cs := #[.int .i64 a]) (e := 3)
  have HB := Lib.hid hbx
  have hb0 : Below w.heap.size w (w.alloc (.cells #[.int .i64 a] 3)) := (Below.refl _ _).alloc (Nat.le_refl _) _
  clear hr hv hbx
  go_enter Try.func20, Try.ntmps20
  go_wp2_with fail
  refine (HS.out _ hb0).mono ?_
  rintro e w1 ⟨⟨A1, n1, c1, rfl, hn1, hR1⟩, hb1⟩
  have hB1 := HB.out.below hb1
  have HP := Lib.hid (show PredR 42 (.pointer (some ⟨w.heap.size, 0, none⟩)) (inR a) w1 (setL l) from fun r hr W hW => has1_any r a w.heap.size W ((hB1.below hW).1 0) ((hB1.below hW).2.2) (setL_mem l r hr))
  have hbw := ext_trans hb0 hb1
  have HC := Lib.hid (containsFunc_any 42 (.pointer (some ⟨w.heap.size, 0, none⟩)) (enters_of Try.func42 (by kernel_rfl) rfl) (inR a) (setL l) A1 n1 c1 _ w1 hR1 (by omega) HP.out)
  clear hB1 hb1 hR1 HP HS
  go_wp2_with fail
  refine HC.out.mono ?_
  rintro e w2 ⟨rfl, hb2⟩
  go_wp2
  go_ret
  exact ⟨by rw [← HV.out]; rfl, ext_trans hbw hb2⟩
end Go.Proofs.Ytebeaghombjooaa

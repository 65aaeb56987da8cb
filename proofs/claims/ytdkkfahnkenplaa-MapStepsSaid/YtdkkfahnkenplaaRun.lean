/- Layer 4: contracts of package runs (over int): Len, Clone, push, part. -/
import Derived.Test.YtdkkfahnkenplaaRows
import Derived.Test.YtdkkfahnkenplaaRunP
import Derived.Test.YtdkkfahnkenplaaBox
import Derived.RegionTactic
import Derived.IntWalk
set_option linter.unusedVariables false
set_option linter.unusedSimpArgs false
namespace Go.Proofs.Ytdkkfahnkenplaa
open Go.RowKit

def rnRow (r : Rn Int) : List Value := [.int .i64 r.1, .int .i64 r.2]
def rnCells (l : List (Rn Int)) : List Value := (l.map rnRow).flatten
theorem rnCells_length (l : List (Rn Int)) : (rnCells l).length = l.length * 2 := by
  unfold rnCells; induction l with
  | nil => rfl
  | cons o l ih => simp only [List.map_cons, List.flatten_cons, List.length_append, List.length_cons, ih]; simp [rnRow]; omega
theorem rnCells_append (a b : List (Rn Int)) : rnCells (a ++ b) = rnCells a ++ rnCells b := by simp [rnCells]
theorem rnCells_get (l : List (Rn Int)) (k : Nat) (hk : k < l.length) : (rnCells l)[k * 2]? = some (.int .i64 l[k].1) ∧ (rnCells l)[k * 2 + 1]? = some (.int .i64 l[k].2) := by
  induction l generalizing k with
  | nil => simp at hk
  | cons o l ih =>
    rcases k with _ | k
    · simp [rnCells, rnRow]
    · have := ih k (by simpa using hk)
      rw [show (k + 1) * 2 = k * 2 + 2 by omega, show k * 2 + 2 + 1 = k * 2 + 1 + 2 by omega]
      simpa [rnCells, rnRow] using this
theorem one_rn (l : List (Rn Int)) : ∀ u ∈ rnCells l, u.oneCell' = true := by
  intro u hu
  unfold rnCells at hu
  obtain ⟨r, hr, hu⟩ := List.mem_flatten.1 hu
  obtain ⟨x, _, rfl⟩ := List.mem_map.1 hr
  simp [rnRow] at hu
  rcases hu with rfl | rfl <;> rfl
theorem rnInfo : (Try.prog.info? 74).map (fun i => (i.zero, i.size, i.bytes)) = some (some (.agg #[.int .i64 0, .int .i64 0]), 2, 16) := by kernel_rfl
/-- The cells of run k. -/
theorem rn_cells {w : World} {B n : Nat} {A : Option Addr} {rs : List (Rn Int)} (h : Rd w B 2 A n (rnCells rs)) (k : Nat) (hk : k < n) :
    ∃ b off, A = some ⟨b, off, none⟩ ∧ b < B ∧ ∃ hk' : k < rs.length, w.cell? ⟨b, off + k * 2, none⟩ = some (.int .i64 rs[k].1) ∧ w.cell? ⟨b, off + k * 2 + 1, none⟩ = some (.int .i64 rs[k].2) := by
  have hl : rs.length = n := by have := h.1; rw [rnCells_length] at this; omega
  obtain ⟨b, off, e, hb, hc⟩ := h.2 (by omega)
  obtain ⟨h0, h1⟩ := rnCells_get rs k (by omega)
  exact ⟨b, off, e, hb, by omega, hc _ _ h0, hc _ _ h1⟩
theorem Rd.rlen {w : World} {B n : Nat} {A : Option Addr} {rs : List (Rn Int)} (h : Rd w B 2 A n (rnCells rs)) : rs.length = n := by
  have := h.1; rw [rnCells_length] at this; omega
abbrev lv (A : Option Addr) (n c : Nat) : Value := .agg #[.slice A n c]

set_option maxHeartbeats 400000 in
theorem len_any (rs : List (Rn Int)) (A : Option Addr) (n c B : Nat) (w : World) (hr : Rd w B 2 A n (rnCells rs)) (hn : n ≤ 1000000) (t : Nat) (ht : tot rs = t) (hb : t ≤ 1000000000) :
    Calls Try.prog 28 #[lv A n c] w fun e w' => e = .returned (.int .i64 t) ∧ Below w.heap.size w w' := by
  have hr := hr.fits (by decide)
  have hl := hr.rlen
  have HR := Lib.hid hr
  have HT := Lib.hid ht
  have HL := Lib.hid hl
  clear hr ht hl
  go_enter Try.func28, Try.ntmps28
  go_wp2
  go_loopw [3, 9] (fun s i wr => ∃ k : Nat, k ≤ n ∧ i = .int .i64 k ∧ s = .int .i64 (tot (rs.take k)) ∧ Below w.heap.size w wr) (fun _ i _ => n - (intOf i).toNat)
  case atStart => exact ⟨0, by omega, rfl, rfl, (Below.refl _ _).alloc (Nat.le_refl _) _⟩
  case round =>
    obtain ⟨k, hk, rfl, rfl, hbw⟩ := hrel
    have hbd := tot_take rs k
    rw [HT.out] at hbd
    by_cases hlt : k < n
    · obtain ⟨b, off, rfl, hbl, hk', c0, c1⟩ := rn_cells (HR.out.below hbw (Nat.le_refl _)) k hlt
      have hsn := tot_snoc rs k hk'
      have hbd2 := tot_take rs (k + 1)
      rw [HT.out, hsn] at hbd2
      obtain ⟨r1, hr1⟩ : ∃ r1, rs[k].1 = r1 := ⟨_, rfl⟩
      obtain ⟨r2, hr2⟩ : ∃ r2, rs[k].2 = r2 := ⟨_, rfl⟩
      rw [hr1] at c0 hsn hbd2
      rw [hr2] at c1
      have HSN := Lib.hid hsn
      clear hsn hr1 hr2
      go_wp2
      exact ⟨⟨k + 1, by omega, by go_num, by rw [HSN.out]; go_num, hbw.alloc hbw.size _⟩, by simp [intOf]; omega⟩
    · obtain rfl : k = n := by omega
      go_wp2
      go_ret
      exact ⟨by rw [List.take_of_length_le (by rw [HL.out]; omega), HT.out]; rfl, hbw⟩

theorem rclone_any (A : Option Addr) (n c B : Nat) (rs : List (Rn Int)) (w : World) (hr : Rd w B 2 A n (rnCells rs)) (hn : n ≤ 100000) :
    Calls Try.prog 38 #[.slice A n c] w fun e w' => ∃ v, e = .returned v ∧ w'.ownsRow w.heap.size 74 2 v n (rnCells rs) ∧ Below w.heap.size w w' := by
  rcases A with _ | ad
  · have hl : n = 0 := by
      rcases Nat.eq_zero_or_pos n with h0 | h0
      · exact h0
      · obtain ⟨b, off, h, _⟩ := hr.2 h0; cases h
    subst hl
    have hx : rs = [] := List.eq_nil_of_length_eq_zero hr.rlen
    subst hx
    have he : ∀ w, (binOp .eql 65 (.slice none 0 c) (.slice none 0 0)).run Try.prog w = .ok (.bool true) w := fun w =>
      Lib.run_eql_slice_nil w _ _ _ _ _ _ _ Try.underlying65
    clear hr
    go_enter Try.func38, Try.ntmps38
    go_wp2
    go_ret
    exact ⟨_, rfl, World.ownsRow_nil _ _ _ _, Below.refl _ _⟩
  · have he : ∀ w, (binOp .eql 65 (.slice (some ad) n c) (.slice none 0 0)).run Try.prog w = .ok (.bool false) w := fun w =>
      Lib.run_eql_slice_nil w _ _ _ _ _ _ _ Try.underlying65
    have hr := hr.fits (by decide)
    have h1 := one_rn rs
    have H1 := Lib.hid h1
    clear h1
    go_enter Try.func38, Try.ntmps38
    go_wp2_with (at_builtin; refine wpList_appR (.tmp 5) (.tmp 6) 65 w.heap.size 74 _ 2 16 _ 0 [] w.heap.size (some ad) n c _ Try.underlying65 rnInfo rfl (by decide) rfl rfl rfl rfl (World.ownsRow_lit _ _ 0 (Nat.le_refl _) (by simp [maxLen]) rfl) (hr.alloc' _ (Nat.le_refl _)) H1.out (by omega) (by omega) (by simp) ?_; intro v2 w2 hown2 hg2 hb2)
    go_ret
    exact ⟨_, rfl, by simpa using hown2, ((Below.refl _ w).alloc (Nat.le_refl _) _).trans hb2⟩
end Go.Proofs.Ytdkkfahnkenplaa

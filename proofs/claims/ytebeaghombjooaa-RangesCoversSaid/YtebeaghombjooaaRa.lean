/- Layer 12: sets of addresses as lists of ranges: the cells, the plain words, contracts of ranges.Valid and set. -/
import Derived.Test.YtebeaghombjooaaRows
import Derived.Test.YtebeaghombjooaaBox
import Derived.Test.YtebeaghombjooaaLib4
import Derived.RegionTactic
import Derived.IntWalk
import Derived.Deep.QuietTactic
import Derived.BigQuiet
set_option linter.unusedVariables false
set_option linter.unusedSimpArgs false
namespace Go.Proofs.Ytebeaghombjooaa
open Go.RowKit

abbrev Rg := Int × Int
def rgRow (r : Rg) : List Value := [.int .i64 r.1, .int .i64 r.2]
def rgCells (l : List Rg) : List Value := (l.map rgRow).flatten
theorem rgCells_length (l : List Rg) : (rgCells l).length = l.length * 2 := by
  unfold rgCells; induction l with
  | nil => rfl
  | cons o l ih => simp only [List.map_cons, List.flatten_cons, List.length_append, List.length_cons, ih]; simp [rgRow]; omega
theorem rgCells_append (a b : List Rg) : rgCells (a ++ b) = rgCells a ++ rgCells b := by simp [rgCells]
theorem rgCells_get (l : List Rg) (k : Nat) (hk : k < l.length) : (rgCells l)[k * 2]? = some (.int .i64 l[k].1) ∧ (rgCells l)[k * 2 + 1]? = some (.int .i64 l[k].2) := by
  induction l generalizing k with
  | nil => simp at hk
  | cons o l ih =>
    rcases k with _ | k
    · simp [rgCells, rgRow]
    · have := ih k (by simpa using hk)
      rw [show (k + 1) * 2 = k * 2 + 2 by omega, show k * 2 + 2 + 1 = k * 2 + 1 + 2 by omega]
      simpa [rgCells, rgRow] using this
theorem one_rg (l : List Rg) : ∀ u ∈ rgCells l, u.oneCell' = true := by
  intro u hu
  unfold rgCells at hu
  obtain ⟨r, hr, hu⟩ := List.mem_flatten.1 hu
  obtain ⟨x, _, rfl⟩ := List.mem_map.1 hr
  simp [rgRow] at hu
  rcases hu with rfl | rfl <;> rfl
theorem rgInfo : (Try.prog.info? 37).map (fun i => (i.zero, i.size, i.bytes)) = some (some (.agg #[.int .i64 0, .int .i64 0]), 2, 16) := by kernel_rfl
theorem Rd.glen {w : World} {B n : Nat} {A : Option Addr} {rs : List Rg} (h : Rd w B 2 A n (rgCells rs)) : rs.length = n := by
  have := h.1; rw [rgCells_length] at this; omega
/-- The cells of range k. -/
theorem rg_cells {w : World} {B n : Nat} {A : Option Addr} {rs : List Rg} (h : Rd w B 2 A n (rgCells rs)) (k : Nat) (hk : k < n) :
    ∃ b off, A = some ⟨b, off, none⟩ ∧ b < B ∧ ∃ hk' : k < rs.length, w.cell? ⟨b, off + k * 2, none⟩ = some (.int .i64 rs[k].1) ∧ w.cell? ⟨b, off + k * 2 + 1, none⟩ = some (.int .i64 rs[k].2) := by
  have hl : rs.length = n := h.glen
  obtain ⟨b, off, e, hb, hc⟩ := h.2 (by omega)
  obtain ⟨h0, h1⟩ := rgCells_get rs k (by omega)
  exact ⟨b, off, e, hb, by omega, hc _ _ h0, hc _ _ h1⟩

/-! ### the plain words -/
def okR (e : Int) (r : Rg) : Bool := decide (e ≤ r.1 ∧ r.1 < 65536 ∧ 1 ≤ r.2 ∧ r.2 ≤ 65536 - r.1)
def validGo (e : Int) : List Rg → Bool
  | [] => true
  | r :: t => okR e r && validGo (r.1 + r.2 + 1) t
def validL (l : List Rg) : Bool := validGo 0 l
def setL (l : List Rg) : List Rg := if validL l then l else []
def inR (a : Int) (r : Rg) : Bool := decide (r.1 ≤ a ∧ a < r.1 + r.2)
def inL (l : List Rg) (a : Int) : Bool := l.any (inR a)
theorem drop_step {α : Type} (l : List α) (k : Nat) (hk : k < l.length) : l.drop k = l[k] :: l.drop (k + 1) := List.drop_eq_getElem_cons hk

set_option maxHeartbeats 1000000 in
theorem valid_any (l : List Rg) (A : Option Addr) (n c B : Nat) (w : World) (hr : Rd w B 2 A n (rgCells l)) (hn : n ≤ 4611686018427387904) (r : Bool) (hv : validL l = r) :
    Calls Try.prog 18 #[.slice A n c] w fun e w' => e = .returned (.bool r) ∧ Below w.heap.size w w' := by
  have hr := hr.fits (by decide)
  have hl := hr.glen
  have HR := Lib.hid hr
  have HL := Lib.hid hl
  have HV := Lib.hid hv
  clear hr hl hv
  go_enter Try.func18, Try.ntmps18
  go_wp2
  go_loopw [3, 8] (fun f i wr => ∃ (k : Nat) (e : Int), k ≤ n ∧ i = .int .i64 k ∧ f = .int .i64 e ∧ 0 ≤ e ∧ e ≤ 65537 ∧ validL l = validGo e (l.drop k) ∧ Below w.heap.size w wr) (fun _ i _ => n - (intOf i).toNat)
  case atStart => exact ⟨0, 0, by omega, rfl, rfl, by omega, by omega, rfl, Below.refl _ _⟩
  case round =>
    obtain ⟨k, e, hk, rfl, rfl, he1, he2, hinv, hbw⟩ := hrel
    by_cases hlt : k < n
    · obtain ⟨b, off, rfl, hbl, hk', c0, c1⟩ := rg_cells (HR.out.below hbw (Nat.le_refl _)) k hlt
      rw [drop_step l k hk'] at hinv
      obtain ⟨⟨r1, r2⟩, hrv⟩ : ∃ r, l[k] = r := ⟨_, rfl⟩
      rw [hrv] at hinv c0 c1
      simp only [validGo] at hinv
      simp only at c0 c1
      have HI := Lib.hid hinv
      have HB := Lib.hid hbw
      clear hinv hrv hbw
      by_cases h1 : r1 < e
      · have hz : r = false := by
          rw [← HV.out, HI.out]; have : okR e (r1, r2) = false := by simp [okR]; omega
          rw [this]; rfl
        subst hz
        go_wp2
        go_ret
        exact ⟨rfl, HB.out.alloc HB.out.size _⟩
      · have d1 : decide (r1 < e) = false := by simp; omega
        have d1' : e ≤ r1 := by omega
        clear h1
        by_cases h2 : 65536 ≤ r1
        · have hz : r = false := by
            rw [← HV.out, HI.out]; have : okR e (r1, r2) = false := by simp [okR]; omega
            rw [this]; rfl
          subst hz
          go_wp2
          go_ret
          exact ⟨rfl, HB.out.alloc HB.out.size _⟩
        · have d2 : decide (65536 ≤ r1) = false := by simp; omega
          have d2' : r1 < 65536 := by omega
          clear h2
          by_cases h3 : r2 < 1
          · have hz : r = false := by
              rw [← HV.out, HI.out]; have : okR e (r1, r2) = false := by simp [okR]; omega
              rw [this]; rfl
            subst hz
            go_wp2
            go_ret
            exact ⟨rfl, HB.out.alloc HB.out.size _⟩
          · have d3 : decide (r2 < 1) = false := by simp; omega
            have d3' : 1 ≤ r2 := by omega
            clear h3
            by_cases h4 : 65536 - r1 < r2
            · have hz : r = false := by
                rw [← HV.out, HI.out]; have : okR e (r1, r2) = false := by simp [okR]; omega
                rw [this]; rfl
              subst hz
              go_wp2
              go_ret
              exact ⟨rfl, HB.out.alloc HB.out.size _⟩
            · have d4 : decide (65536 - r1 < r2) = false := by simp; omega
              have d4' : r2 ≤ 65536 - r1 := by omega
              clear h4
              go_wp2
              refine ⟨⟨k + 1, r1 + r2 + 1, by omega, by go_num, rfl, by omega, by omega, ?_, HB.out.alloc HB.out.size _⟩, by simp [intOf]; omega⟩
              rw [HI.out]
              have : okR e (r1, r2) = true := by simp [okR]; omega
              rw [this]; rfl
    · obtain rfl : k = n := by omega
      rw [List.drop_of_length_le (by rw [HL.out]; omega)] at hinv
      have hz : r = true := by rw [← HV.out, hinv]; rfl
      subst hz
      clear hinv
      go_wp2
      go_ret
      exact ⟨rfl, hbw⟩

/-- The slice that 'set' hands on. -/
def SetV (w : World) (A : Option Addr) (n c : Nat) (l : List Rg) (e : Ending) (w' : World) : Prop :=
  (∃ A' n' c', e = .returned (.slice A' n' c') ∧ n' ≤ n ∧ Rd w' w.heap.size 2 A' n' (rgCells (setL l))) ∧ Below w.heap.size w w'
theorem set_any (l : List Rg) (A : Option Addr) (n c B : Nat) (w : World) (hr : Rd w B 2 A n (rgCells l)) (hn : n ≤ 4611686018427387904) :
    Calls Try.prog 40 #[.slice A n c] w (SetV w A n c l) := by
  have hr := hr.fits (by decide)
  obtain ⟨r, hv⟩ : ∃ r, validL l = r := ⟨_, rfl⟩
  have HV := Lib.hid (valid_any l A n c w.heap.size w hr hn r hv)
  have HR := Lib.hid hr
  cases r
  · have hs : setL l = [] := by rw [setL, hv]; rfl
    have HS := Lib.hid hs
    clear hs hv hr
    go_enter Try.func40, Try.ntmps40
    go_wp2_with fail
    refine HV.out.mono ?_
    rintro e w1 ⟨rfl, hb1⟩
    go_wp2
    go_ret
    exact ⟨⟨none, 0, 0, rfl, by omega, by rw [HS.out]; exact Rd.nil_⟩, hb1⟩
  · have hs : setL l = l := by rw [setL, hv]; rfl
    have HS := Lib.hid hs
    clear hs hv hr
    go_enter Try.func40, Try.ntmps40
    go_wp2_with fail
    refine HV.out.mono ?_
    rintro e w1 ⟨rfl, hb1⟩
    go_wp2
    go_ret
    exact ⟨⟨A, n, c, rfl, by omega, by rw [HS.out]; exact HR.out.below hb1 (Nat.le_refl _)⟩, hb1⟩
end Go.Proofs.Ytebeaghombjooaa

/- Join (over int): the counts are any numbers. -/
import Derived.Test.YtjbbkhoonenfjaaRunE
set_option linter.unusedVariables false
set_option linter.unusedSimpArgs false
namespace Go.Proofs.Ytjbbkhoonenfjaa
open Go.RowKit

abbrev Ij := Int × Int
def ijRow (r : Ij) : List Value := [.int .i64 r.1, .int .i64 r.2]
def ijCells (l : List Ij) : List Value := (l.map ijRow).flatten
theorem ijCells_length (l : List Ij) : (ijCells l).length = l.length * 2 := by
  unfold ijCells; induction l with
  | nil => rfl
  | cons o l ih => simp only [List.map_cons, List.flatten_cons, List.length_append, List.length_cons, ih]; simp [ijRow]; omega
theorem ijCells_append (a b : List Ij) : ijCells (a ++ b) = ijCells a ++ ijCells b := by simp [ijCells]
theorem ijCells_get (l : List Ij) (k : Nat) (hk : k < l.length) : (ijCells l)[k * 2]? = some (.int .i64 l[k].1) ∧ (ijCells l)[k * 2 + 1]? = some (.int .i64 l[k].2) := by
  induction l generalizing k with
  | nil => simp at hk
  | cons o l ih =>
    rcases k with _ | k
    · simp [ijCells, ijRow]
    · have := ih k (by simpa using hk)
      rw [show (k + 1) * 2 = k * 2 + 2 by omega, show k * 2 + 2 + 1 = k * 2 + 1 + 2 by omega]
      simpa [ijCells, ijRow] using this
/-- The cells of pair k. -/
theorem ij_cells {w : World} {B n : Nat} {A : Option Addr} {l : List Ij} (h : Rd w B 2 A n (ijCells l)) (k : Nat) (hk : k < n) :
    ∃ b off, A = some ⟨b, off, none⟩ ∧ b < B ∧ ∃ hk' : k < l.length, w.cell? ⟨b, off + k * 2, none⟩ = some (.int .i64 l[k].1) ∧ w.cell? ⟨b, off + k * 2 + 1, none⟩ = some (.int .i64 l[k].2) := by
  have hl : l.length = n := by have := h.1; rw [ijCells_length] at this; omega
  obtain ⟨b, off, e, hb, hc⟩ := h.2 (by omega)
  obtain ⟨h0, h1⟩ := ijCells_get l k (by omega)
  exact ⟨b, off, e, hb, by omega, hc _ _ h0, hc _ _ h1⟩
theorem Rd.ijlen {w : World} {B n : Nat} {A : Option Addr} {l : List Ij} (h : Rd w B 2 A n (ijCells l)) : l.length = n := by
  have := h.1; rw [ijCells_length] at this; omega

def toRn (l : List Ij) : List (Rn Int) := l.map fun r => (r.1.toNat, r.2)
theorem ij_rn (l : List Ij) (h : ∀ r ∈ l, 1 ≤ r.1) : ijCells l = rnCells (toRn l) := by
  induction l with
  | nil => rfl
  | cons r l ih =>
    have h1 := h r (by simp)
    have e : ((r.1.toNat : Nat) : Int) = r.1 := by omega
    have h2 := ih fun x hx => h x (by simp [hx])
    simp only [ijCells, rnCells, toRn, List.map_cons, List.flatten_cons] at h2 ⊢
    rw [h2]
    simp [ijRow, rnRow, e]
/-- Whether Join accepts, 'left' values being left and p the value ahead. -/
def jOk (left : Int) (p : Option Int) : List Ij → Bool
  | [] => true
  | r :: l => if r.1 < 1 ∨ left < r.1 ∨ p = some r.2 then false else jOk (left - r.1) (some r.2) l
theorem jOk_spec (l : List Ij) (left : Int) (p : Option Int) (hl : 0 ≤ left) (h : jOk left p l = true) : (∀ r ∈ l, 1 ≤ r.1) ∧ MxA p (toRn l) ∧ (tot (toRn l) : Int) ≤ left := by
  induction l generalizing left p with
  | nil => exact ⟨by simp, trivial, by simpa [toRn, tot] using hl⟩
  | cons r l ih =>
    unfold jOk at h
    split at h
    · cases h
    · rename_i hc
      have h1 : 1 ≤ r.1 := by omega
      have h2 : r.1 ≤ left := by omega
      have h3 : ¬ p = some r.2 := fun e => hc (.inr (.inr e))
      obtain ⟨i1, i2, i3⟩ := ih (left - r.1) (some r.2) (by omega) h
      refine ⟨?_, ?_, ?_⟩
      · intro x hx
        rcases List.mem_cons.1 hx with rfl | hx
        · exact h1
        · exact i1 x hx
      · refine ⟨?_, ?_, i2⟩
        · show 1 ≤ r.1.toNat
          omega
        · exact fun e => h3 e.symm
      · simp only [toRn, List.map_cons, tot] at i3 ⊢
        omega
def prevOf (l : List Ij) (k : Nat) : Option Int := if k = 0 then none else (l[k - 1]?).map (·.2)
theorem jOk_step (l : List Ij) (k : Nat) (left : Int) (hk : k < l.length) : jOk left (prevOf l k) (l.drop k) = if l[k].1 < 1 ∨ left < l[k].1 ∨ prevOf l k = some l[k].2 then false else jOk (left - l[k].1) (prevOf l (k + 1)) (l.drop (k + 1)) := by
  rw [List.drop_eq_getElem_cons hk, jOk]
  have : prevOf l (k + 1) = some l[k].2 := by
    rw [prevOf, if_neg (by omega), Nat.add_sub_cancel, List.getElem?_eq_getElem hk]
    rfl
  rw [this]

def Joined (w : World) (l : List Ij) (n : Nat) (ok : Bool) (e : Ending) (w' : World) : Prop :=
  Below w.heap.size w w' ∧ ∃ A c m, e = .returned (.tuple #[lv A m c, .bool ok]) ∧ if ok = true then m = n ∧ Rd w' w'.heap.size 2 A n (rnCells (toRn l)) else A = none ∧ m = 0 ∧ c = 0

set_option maxRecDepth 100000 in
set_option maxHeartbeats 2000000 in
theorem join_any (l : List Ij) (A : Option Addr) (n c B : Nat) (w : World) (hr : Rd w B 2 A n (ijCells l)) (hn : n ≤ 10000) (hi : ∀ r ∈ l, -9223372036854775808 ≤ r.1 ∧ r.1 ≤ 9223372036854775807) (ok : Bool) (h : jOk 65536 none l = ok) :
    Calls Try.prog 17 #[.slice A n c] w (Joined w l n ok) := by
  have hr := hr.fits (by decide)
  have hl := hr.ijlen
  have HR := Lib.hid hr
  have HL := Lib.hid hl
  have HH := Lib.hid h
  have HI := Lib.hid hi
  clear hr hl h hi
  go_enter Try.func17, Try.ntmps17
  go_wp2
  go_loopw [4, 9] (fun x i wr => ∃ k : Nat, ∃ L : Int, k ≤ n ∧ i = .int .i64 k ∧ x = .int .i64 L ∧ 0 ≤ L ∧ L ≤ 65536 ∧ jOk L (prevOf l k) (l.drop k) = ok ∧ Box wr w.heap.size #[.slice none 0 0] ∧ Below w.heap.size w wr) (fun _ i _ => n - (intOf i).toNat)
  case atStart => exact ⟨0, 65536, by omega, rfl, rfl, by omega, by omega, by simpa [prevOf] using HH.out, Box.alloc_, (Below.refl _ _).alloc (Nat.le_refl _) _⟩
  case round =>
    obtain ⟨k, L, hk, rfl, rfl, hL0, hL1, hj, hB, hbr⟩ := hrel
    have HB := Lib.hid hB
    clear hB
    by_cases hlt : k < n
    · obtain ⟨b, o, rfl, hbb, hk1, x0, x1⟩ := ij_cells (HR.out.below hbr (Nat.le_refl _)) k hlt
      have hs := jOk_step l k L hk1
      have hci := HI.out l[k] (List.getElem_mem hk1)
      obtain ⟨c0, v0, hcv⟩ : ∃ c0 v0, l[k] = (c0, v0) := ⟨_, _, rfl⟩
      rw [hj, hcv] at hs
      rw [hcv] at x0 x1 hci
      simp only at hs x0 x1 hci
      have HS := Lib.hid hs
      clear hs hcv hj
      go_wp2_with fail
      have hbb2 : b < wr.heap.size := Nat.lt_of_lt_of_le hbb hbr.size
      by_cases hc1 : c0 < 1
      · obtain rfl : ok = false := by rw [HS.out, if_pos (.inl hc1)]
        have hc1' : decide (c0 < 1) = true := by simpa using hc1
        go_wp2_with fail
        go_quiet (fail)
        obtain ⟨q2, z2, l2⟩ := HB.out.alloc' (.cells #[.int .i64 c0, .int .i64 v0] 36)
        go_wp2
        try simp only [Exit.inBlock, Exit.then]
        refine bodyPost_ret (v := .tuple #[lv none 0 0, .bool false]) (by simp [results, Try.results17, go_sem, q2, z2, l2]) rfl ⟨?_, none, 0, 0, rfl, ?_⟩
        · exact (below_drewN (hbr.alloc hbr.size _) _).setCell (by show w.heap.size ≤ w.heap.size; omega) _
        · simp
      · have hc1' : decide (c0 < 1) = false := by simpa using hc1
        by_cases hc2 : L < c0
        · obtain rfl : ok = false := by rw [HS.out, if_pos (.inr (.inl hc2))]
          have hc2' : decide (L < c0) = true := by simpa using hc2
          go_wp2_with fail
          go_quiet (fail)
          obtain ⟨q2, z2, l2⟩ := HB.out.alloc' (.cells #[.int .i64 c0, .int .i64 v0] 36)
          go_wp2
          try simp only [Exit.inBlock, Exit.then]
          refine bodyPost_ret (v := .tuple #[lv none 0 0, .bool false]) (by simp [results, Try.results17, go_sem, q2, z2, l2]) rfl ⟨?_, none, 0, 0, rfl, ?_⟩
          · exact (below_drewN (hbr.alloc hbr.size _) _).setCell (by show w.heap.size ≤ w.heap.size; omega) _
          · simp
        · have hc2' : decide (L < c0) = false := by simpa using hc2
          by_cases hk0 : k = 0
          · subst hk0
            have hs2 : jOk (L - c0) (prevOf l (0 + 1)) (l.drop (0 + 1)) = ok := by
              rw [HS.out, if_neg (by simp [prevOf]; omega)]
            have HS2 := Lib.hid hs2
            have hB' := HB.out.alloc' (.cells #[.int .i64 c0, .int .i64 v0] 36)
            clear hs2
            go_wp2_with fail
            go_quiet (fail)
            go_wp2
            exact ⟨⟨0 + 1, L - c0, by omega, by go_num, by go_num, by omega, by omega, HS2.out, hB'.drewN _, below_drewN (hbr.alloc hbr.size _) _⟩, by simp [intOf]; omega⟩
          · obtain ⟨b', o', hA, _, hk1', y0, y1⟩ := ij_cells (HR.out.below hbr (Nat.le_refl _)) (k - 1) (by omega)
            injection hA with hA
            injection hA with hA hB' _
            subst hA hB'
            obtain ⟨v1, hv1⟩ : ∃ v1, l[k - 1].2 = v1 := ⟨_, rfl⟩
            rw [hv1] at y1
            have hp : prevOf l k = some v1 := by rw [prevOf, if_neg hk0, List.getElem?_eq_getElem hk1', Option.map_some, hv1]
            have hk00 : decide (0 < k) = true := by simp; omega
            have hk01 : decide ((0 : Int) < (k : Int)) = true := by simp; omega
            have f3 : IntKind.i64.wrap ((k : Int) - 1) = ((k - 1 : Nat) : Int) := by rw [IntWalk.i64_in _ ⟨by omega, by omega⟩]; omega
            have hkm : k - 1 < n := by omega
            clear hv1
            by_cases hv : v1 = v0
            · obtain rfl : ok = false := by rw [HS.out, hp, if_pos (.inr (.inr (by rw [hv])))]
              have hvd : (v1 == v0) = true := by simpa using hv
              clear hp
              go_wp2_with fail
              go_quiet (fail)
              obtain ⟨q2, z2, l2⟩ := HB.out.alloc' (.cells #[.int .i64 c0, .int .i64 v0] 36)
              go_wp2
              try simp only [Exit.inBlock, Exit.then]
              refine bodyPost_ret (v := .tuple #[lv none 0 0, .bool false]) (by simp [results, Try.results17, go_sem, q2, z2, l2]) rfl ⟨?_, none, 0, 0, rfl, ?_⟩
              · exact (below_drewN (hbr.alloc hbr.size _) _).setCell (by show w.heap.size ≤ w.heap.size; omega) _
              · simp
            · have hvd : (v1 == v0) = false := by simpa using hv
              have hs2 : jOk (L - c0) (prevOf l (k + 1)) (l.drop (k + 1)) = ok := by
                rw [HS.out, hp, if_neg (by intro h; rcases h with h | h | h <;> first | exact absurd h (by omega) | (injection h with h; exact hv h))]
              have HS2 := Lib.hid hs2
              have hB' := HB.out.alloc' (.cells #[.int .i64 c0, .int .i64 v0] 36)
              clear hs2 hp
              go_wp2_with fail
              go_quiet (fail)
              go_wp2
              exact ⟨⟨k + 1, L - c0, by omega, by go_num, by go_num, by omega, by omega, HS2.out, hB'.drewN _, below_drewN (hbr.alloc hbr.size _) _⟩, by simp [intOf]; omega⟩
    · obtain rfl : k = n := by omega
      have hok : ok = true := by
        rw [← hj, List.drop_of_length_le (by rw [HL.out]; omega)]
        rfl
      subst hok
      obtain ⟨s1, s2, s3⟩ := jOk_spec l 65536 none (by omega) HH.out
      have HC := Lib.hid (rclone_any A k c w.heap.size (toRn l) wr (by rw [← ij_rn l s1]; exact HR.out.below hbr (Nat.le_refl _)) (by omega))
      clear s1 s2 s3 hj
      go_wp2_with fail
      refine HC.out.mono ?_
      rintro e w5 ⟨v5, rfl, hown5, hb5⟩
      obtain ⟨A5, c5, hv5, _, _⟩ := own_form hown5
      subst hv5
      have HO := Lib.hid hown5
      obtain ⟨q2, z2, l2⟩ := HB.out.below hb5
      have hbr5 := hbr.trans (hb5.mono hbr.size)
      have hl0 := HB.out.2.2
      clear hown5 hb5
      go_wp2
      refine bodyPost_ret (v := .tuple #[lv A5 k c5, .bool true]) (by simp [results, Try.results17, go_sem, q2, z2, l2]) rfl ⟨hbr5.setCell (by show w.heap.size ≤ w.heap.size; omega) _, A5, c5, k, rfl, ?_⟩
      rw [if_pos rfl]
      exact ⟨rfl, Rd.of_own (ownsRow_setCell_below HO.out hl0 _)⟩
end Go.Proofs.Ytjbbkhoonenfjaa

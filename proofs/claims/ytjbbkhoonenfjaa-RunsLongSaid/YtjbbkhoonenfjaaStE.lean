/- Layer 4: Count; the law RunsCount. -/
import Derived.Test.YtjbbkhoonenfjaaStD
import Derived.MapKept
import Derived.Deep.QuietTactic
import Derived.BigQuiet
import Derived.Laws.Strings
set_option linter.unusedVariables false
set_option linter.unusedSimpArgs false
namespace Go.Proofs.Ytjbbkhoonenfjaa
open Go.RowKit

def cntS (x : ByteArray) (l : List ByteArray) : Nat := l.count x
theorem cnt_leS (x : ByteArray) (l : List ByteArray) : cntS x l ≤ l.length := List.count_le_length
theorem cnt_expand_snocS (x : ByteArray) (rs : List (Rn ByteArray)) (k : Nat) (hk : k < rs.length) : cntS x (expand (rs.take (k + 1))) = cntS x (expand (rs.take k)) + (if rs[k].2 = x then rs[k].1 else 0) := by
  rw [List.take_succ_eq_append_getElem hk, expand_append, cntS, List.count_append]
  congr 1
  haveI : LawfulBEq ByteArray := { eq_of_beq := fun {a b} h => (Go.MapKept.bytes_beq a b).1 h, rfl := fun {a} => (Go.MapKept.bytes_beq a a).2 rfl }
  simp only [expand, List.append_nil, List.count_replicate]
  by_cases h : rs[k].2 = x
  · rw [if_pos h, h]; simp
  · have := bs_ne h; simp [h, this]
set_option maxHeartbeats 1000000 in
theorem count_anyS (rs : List (Rn ByteArray)) (A : Option Addr) (n c B : Nat) (x : ByteArray) (w : World) (hr : Rd w B 2 A n (rnCellsS rs)) (hn : n ≤ 1000000) (hb : tot rs ≤ 1000000) (t : Nat) (ht : cntS x (expand rs) = t) :
    Calls Try.prog 16 #[lv A n c, .string x] w fun e w' => e = .returned (.int .i64 t) ∧ Below w.heap.size w w' := by
  have hr := hr.fits (by decide)
  have hl := hr.rlenS
  have HR := Lib.hid hr
  have HT := Lib.hid ht
  have HL := Lib.hid hl
  clear hr ht hl
  go_enter Try.func16, Try.ntmps16
  go_wp2
  go_loopw [5, 11] (fun s i wr => ∃ k : Nat, k ≤ n ∧ i = .int .i64 k ∧ s = .int .i64 (cntS x (expand (rs.take k))) ∧ Below w.heap.size w wr) (fun _ i _ => n - (intOf i).toNat)
  case atStart => exact ⟨0, by omega, rfl, rfl, (Below.refl _ _).alloc (Nat.le_refl _) _⟩
  case round =>
    obtain ⟨k, hk, rfl, rfl, hbw⟩ := hrel
    have hbd : cntS x (expand (rs.take k)) ≤ 1000000 := by
      have h1 := cnt_leS x (expand (rs.take k))
      rw [expand_length] at h1
      have := tot_take rs k
      omega
    by_cases hlt : k < n
    · obtain ⟨b, off, rfl, hbl, hk', c0, c1⟩ := rn_cellsS (HR.out.below hbw (Nat.le_refl _)) k hlt
      have hsn := cnt_expand_snocS x rs k hk'
      have hr1b : rs[k].1 ≤ 1000000 := by
        have h1 := tot_snoc rs k hk'
        have h2 := tot_take rs (k + 1)
        omega
      obtain ⟨r1, hr1⟩ : ∃ r1, rs[k].1 = r1 := ⟨_, rfl⟩
      obtain ⟨r2, hr2⟩ : ∃ r2, rs[k].2 = r2 := ⟨_, rfl⟩
      rw [hr1] at c0 hsn hr1b
      rw [hr2] at c1 hsn
      by_cases hx : r2 = x
      · rw [if_pos hx] at hsn
        have HSN := Lib.hid hsn
        have hxx : (r2 == r2) = true := bs_eq r2
        subst hx
        clear hsn hr1 hr2
        go_wp2
        exact ⟨⟨k + 1, by omega, by go_num, by rw [HSN.out]; go_num, hbw.alloc hbw.size _⟩, by simp [intOf]; omega⟩
      · rw [if_neg hx, Nat.add_zero] at hsn
        have HSN := Lib.hid hsn
        have hx' : (r2 == x) = false := bs_ne hx
        have hx2 : (r2.toList == x.toList) = false := bs_neL hx
        clear hsn hr1 hr2 hx
        go_wp2
        exact ⟨⟨k + 1, by omega, by go_num, by rw [HSN.out]; rfl, hbw.alloc hbw.size _⟩, by simp [intOf]; omega⟩
    · obtain rfl : k = n := by omega
      go_wp2
      go_ret
      exact ⟨by rw [List.take_of_length_le (by rw [HL.out]; omega), HT.out]; rfl, hbw⟩
end Go.Proofs.Ytjbbkhoonenfjaa

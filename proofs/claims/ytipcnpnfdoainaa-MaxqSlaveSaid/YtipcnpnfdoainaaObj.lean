/- Identification objects: slices of structs that hold slices of bytes; the statements' Objects and Reply. -/
import Derived.Test.YtipcnpnfdoainaaBytes
set_option linter.unusedVariables false
set_option linter.unusedSimpArgs false
namespace Go.Proofs.Ytipcnpnfdoainaa
open Go.RowKit

structure Ob where
  id : Int
  A : Option Addr
  n : Nat
  c : Nat
  val : List Int
def obRow (o : Ob) : List Value := [.int .i64 o.id, .slice o.A o.n o.c]
/-- What an object's own slice reads. -/
def Ob.ok (w : World) (B : Nat) (o : Ob) : Prop := Rd w B 1 o.A o.n (by8 o.val) ∧ o.n ≤ o.c ∧ (Lit.int .i64 o.id).wf = true ∧ ∀ x ∈ o.val, (Lit.int .u8 x).wf = true
def obCells (l : List Ob) : List Value := (l.map obRow).flatten
theorem obCells_length (l : List Ob) : (obCells l).length = l.length * 2 := by
  unfold obCells; induction l with
  | nil => rfl
  | cons o l ih => simp only [List.map_cons, List.flatten_cons, List.length_append, List.length_cons, ih]; simp [obRow]; omega
theorem obCells_0 (l : List Ob) (k : Nat) (hk : k < l.length) : (obCells l)[k * 2]? = some (.int .i64 (l[k]).id) := by
  induction l generalizing k with
  | nil => simp at hk
  | cons o l ih =>
    rcases k with _ | k
    · simp [obCells, obRow]
    · have := ih k (by simpa using hk)
      rw [show (k + 1) * 2 = k * 2 + 2 by omega]
      simpa [obCells, obRow] using this
theorem obCells_1 (l : List Ob) (k : Nat) (hk : k < l.length) : (obCells l)[k * 2 + 1]? = some (.slice (l[k]).A (l[k]).n (l[k]).c) := by
  induction l generalizing k with
  | nil => simp at hk
  | cons o l ih =>
    rcases k with _ | k
    · simp [obCells, obRow]
    · have := ih k (by simpa using hk)
      rw [show (k + 1) * 2 + 1 = k * 2 + 1 + 2 by omega]
      simpa [obCells, obRow] using this
def objSmall (l : List Ob) : Bool := l.all (fun o => decide (o.n ≤ 300)) && decide (l.length ≤ 40)

theorem objects_any (l : List Ob) (A : Option Addr) (c B : Nat) (w : World) (hr : Rd w B 2 A l.length (obCells l)) (hm : l.length ≤ maxLen) :
    Calls Try.prog 30 #[.slice A l.length c] w fun e w' => e = .returned (.bool (objSmall l)) ∧ w = w' := by
  unfold maxLen at hm
  have hc : ∀ k, (hk : k < l.length) → ∃ b off, A = some ⟨b, off, none⟩ ∧ w.cell? ⟨b, off + k * 2 + 1, none⟩ = some (.slice (l[k]).A (l[k]).n (l[k]).c) := fun k hk => by
    obtain ⟨b, off, e, _, hc⟩ := hr.2 (by omega)
    exact ⟨b, off, e, hc (k * 2 + 1) _ (obCells_1 l k hk)⟩
  have HC := Lib.hid hc; clear hc hr
  go_enter Try.func30, Try.ntmps30
  go_wp2
  go_loop [3] (fun i => ∃ k : Nat, k ≤ l.length ∧ i = .int .i64 k ∧ ∀ o ∈ l.take k, o.n ≤ 300) (fun i => l.length - (intOf i).toNat)
  case atStart => exact ⟨0, by omega, rfl, by simp⟩
  case round =>
    obtain ⟨k, hk, rfl, hrel⟩ := hrel
    have HR := Lib.hid hrel; clear hrel
    by_cases hlt : k < l.length
    · obtain ⟨b, off, rfl, hcell⟩ := HC.out k hlt
      by_cases hbig : (l[k]).n ≤ 300
      · have hnx : ∀ o ∈ l.take (k + 1), o.n ≤ 300 := by
          intro o ho
          rw [List.take_succ_eq_append_getElem hlt] at ho
          rcases List.mem_append.1 ho with h | h
          · exact HR.out o h
          · rw [List.mem_singleton.1 h]; exact hbig
        have HN := Lib.hid hnx; clear hnx
        go_wp2
        exact ⟨⟨k + 1, by omega, by go_num, HN.out⟩, by simp [intOf]; omega⟩
      · have hs : objSmall l = false := by
          unfold objSmall
          have : l.all (fun o => decide (o.n ≤ 300)) = false := by
            rw [List.all_eq_false]
            exact ⟨l[k], List.getElem_mem hlt, by simpa using hbig⟩
          rw [this]; rfl
        have HS := Lib.hid hs; clear hs
        have hbig' : 300 < (l[k]).n := by omega
        clear hbig
        go_wp2
        go_ret
        exact ⟨by rw [HS.out]; rfl, rfl⟩
    · obtain rfl : k = l.length := by omega
      have hs : objSmall l = decide (l.length ≤ 40) := by
        unfold objSmall
        have : l.all (fun o => decide (o.n ≤ 300)) = true := by
          rw [List.all_eq_true]
          intro o ho
          have := HR.out o (by rwa [List.take_of_length_le (Nat.le_refl _)])
          simpa using this
        rw [this]; rfl
      have HS := Lib.hid hs; clear hs
      go_wp2
      go_ret
      exact ⟨by rw [HS.out]; simp; omega, rfl⟩

end Go.Proofs.Ytipcnpnfdoainaa

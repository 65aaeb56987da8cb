/- Layer 5: contracts of the reference's All and Valid. -/
import Derived.Test.YtoliplochipoeaaTSetV
set_option linter.unusedVariables false
set_option linter.unusedSimpArgs false
namespace Go.Proofs.Ytoliplochipoeaa
open Go.RowKit

abbrev stRow (s : Int × Int) : List Value := [.int .i64 s.1, .int .i64 s.2]
abbrev stCells (l : List (Int × Int)) : List Value := (l.map stRow).flatten
def allL : List (Int × Int) := bauds.flatMap fun b => [(b, 0), (b, 1), (b, 2)]
theorem all_length : allL.length = 24 := by decide
theorem all_get (i p : Nat) (hi : i < 8) (hp : p < 3) : allL[3 * i + p]? = some (bauds.getD i 0, (p : Int)) := by
  have : ∀ i : Fin 8, ∀ p : Fin 3, allL[3 * (i : Nat) + (p : Nat)]? = some (bauds.getD (i : Nat) 0, ((p : Nat) : Int)) := by decide
  exact this ⟨i, hi⟩ ⟨p, hp⟩
theorem all_take (i p : Nat) (hi : i < 8) (hp : p < 3) : stCells (allL.take (3 * i + p + 1)) = stCells (allL.take (3 * i + p)) ++ [.int .i64 (bauds.getD i 0), .int .i64 p] := by
  have h := all_get i p hi hp
  have hl : 3 * i + p < allL.length := by rw [all_length]; omega
  rw [List.take_succ_eq_append_getElem hl]
  have e : allL[3 * i + p] = (bauds.getD i 0, (p : Int)) := by rw [List.getElem?_eq_getElem hl] at h; exact Option.some.inj h
  rw [e]
  simp [stCells, stRow]
theorem setInfo : (Try.prog.info? 24).map (fun i => (i.zero, i.size, i.bytes)) = some (some (.agg #[.int .i64 0, .int .i64 0]), 2, 16) := by kernel_rfl

set_option maxHeartbeats 1000000 in
theorem all_any (w : World) : Calls Try.prog 5 #[] w fun e w' =>
    ∃ A c, e = .returned (.slice A 24 c) ∧ w'.ownsRow w.heap.size 24 2 (.slice A 24 c) 24 (stCells allL) ∧ Below w.heap.size w w' := by
  go_enter Try.func5, Try.ntmps5
  go_wp2_with fail
  refine (Bauds_any _).mono ?_
  rintro e w1 ⟨A1, rfl, hR1, hb1⟩
  go_wp2
  go_loopw [1, 3, 4] (fun v i u wr => ∃ k : Nat, k ≤ 8 ∧ i = .int .i64 k ∧ wr.ownsRow w1.heap.size 24 2 v (3 * k) (stCells (allL.take (3 * k))) ∧ Below w1.heap.size w1 wr) (fun _ i _ _ => 8 - (intOf i).toNat)
  case atStart => exact ⟨0, by omega, rfl, World.ownsRow_nil _ _ _ _, Below.refl _ _⟩
  case round =>
    obtain ⟨i, hi, rfl, hown, hbel⟩ := hrel
    by_cases hlt : i < 8
    · obtain ⟨wo, rfl⟩ : ∃ wo : World, wo = wr := ⟨_, rfl⟩
      have hlt' : (i : Int) < 8 := by omega
      go_wp2
      go_loopw [1, 4] (fun v u wr => ∃ p : Nat, p ≤ 3 ∧ u = .int .i64 p ∧ wr.ownsRow w1.heap.size 24 2 v (3 * i + p) (stCells (allL.take (3 * i + p))) ∧ Below w1.heap.size w1 wr) (fun _ u _ => 3 - (intOf u).toNat)
      case atStart => exact ⟨0, by omega, rfl, hown, hbel⟩
      case round =>
        obtain ⟨p, hp, rfl, hown2, hbel2⟩ := hrel
        by_cases hlp : p < 3
        · have hlp' : (p : Int) < 3 := by omega
          obtain ⟨b, off, e, _, hc⟩ := (hR1.below hbel2 (Nat.le_refl _)).2 (by omega)
          have hcell := hc i (.int .i64 (bauds.getD i 0)) (by rw [i64s_get bauds i hlt]; simp [List.getD, List.getElem?_eq_getElem (show i < bauds.length from hlt)])
          obtain ⟨z, hz⟩ : ∃ z, bauds.getD i 0 = z := ⟨_, rfl⟩
          have hat := all_take i p hlt hlp
          rw [hz] at hcell hat
          have HAT := Lib.hid hat
          clear hat hc hz
          subst e
          have hsz := hbel2.size
          go_wp2_with (at_builtin; refine wpList_app (.tmp 16) (.tmp 23) 25 w1.heap.size 24 _ 2 16 _ (3 * i + p) 1 1 _ Try.underlying25 setInfo rfl (by decide) rfl rfl rfl rfl hown2 rfl (by simp [Value.oneCell']) (by omega) (by omega) hsz ?_; intro v1 w2 hown3 hg3 hb3)
          refine ⟨⟨p + 1, by omega, by go_num, ?_, hbel2.trans hb3⟩, by simp [intOf]; omega⟩
          rw [show 3 * i + (p + 1) = 3 * i + p + 1 from rfl, HAT.out]
          exact hown3
        · obtain rfl : p = 3 := by omega
          go_wp2
          refine ⟨⟨i + 1, by omega, by go_num, ?_, hbel2⟩, by simp [intOf]; omega⟩
          rw [show 3 * (i + 1) = 3 * i + 3 by omega]
          exact hown2
    · obtain rfl : i = 8 := by omega
      go_wp2
      go_ret
      rw [show 3 * 8 = 24 from rfl, List.take_of_length_le (by rw [all_length]; exact Nat.le_refl _)] at hown
      obtain ⟨A, c, rfl, _, _⟩ := own_form hown
      exact ⟨A, c, rfl, own_mono hown hb1.size, ext_trans hb1 hbel⟩

end Go.Proofs.Ytoliplochipoeaa

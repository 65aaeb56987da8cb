/- The receiver: the law's sanity check. -/
import Derived.Test.YtoliplochipoeaaTRcvS
set_option linter.unusedVariables false
set_option linter.unusedSimpArgs false
namespace Go.Proofs.Ytoliplochipoeaa
open Go.RowKit

theorem SplitOk.get {w w' : World} {ch t15 t35 : Int} {evs : List Ev} {vo : Value} {E : Int} {F : List Fz} (h : SplitOk w w' ch t15 t35 evs vo E) (h1 : evs.all inR = true) (h2 : ordE 0 evs = true) (h3 : framesS ch t15 t35 evs = F) :
    E = 0 ∧ Below w.heap.size w w' ∧ ∃ (l : List Fr) (Ao : Option Addr) (co : Nat), vo = .slice Ao F.length co ∧ Rd w' w'.heap.size 4 Ao F.length (frCells l) ∧ (∀ f ∈ l, FrOk w' (fun _ => False) f) ∧ l.map fz = F := by
  rcases h with ⟨hb, ⟨k, _⟩ | ⟨_, k, _⟩ | ⟨_, _, rfl, l, Ao, co, rfl, hr, hf, hl⟩⟩
  · rw [h1] at k; cases k
  · rw [h2] at k; cases k
  · rw [h3] at hl
    have hn : l.length = F.length := by rw [← hl]; simp
    rw [hn] at hr
    exact ⟨rfl, hb, l, Ao, co, by rw [hn], hr, hf, hl⟩
deriving instance DecidableEq for Fz
abbrev evA : List Ev := [⟨287, 1, 0⟩, ⟨574, 2, 0⟩, ⟨2611, 3, 0⟩]
abbrev evB : List Ev := [⟨287, 1, 0⟩, ⟨574, 2, 0⟩, ⟨2000, 3, 0⟩]
theorem framesA : framesS 287 750 1750 evA = [⟨[1, 2], 287, 574, 0⟩, ⟨[3], 2611, 2611, 0⟩] := by decide +kernel
theorem framesB : framesS 287 750 1750 evB = [⟨[1, 2, 3], 287, 2000, 4⟩] := by decide +kernel
end Go.Proofs.Ytoliplochipoeaa

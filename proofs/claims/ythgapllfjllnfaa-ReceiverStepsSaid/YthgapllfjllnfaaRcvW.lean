/- The receiver: the law's sanity check. -/
import Derived.Test.YthgapllfjllnfaaRcvS
set_option linter.unusedVariables false
set_option linter.unusedSimpArgs false
namespace Go.Proofs.Ythgapllfjllnfaa
open Go.RowKit

theorem SplitOk.get {w w' : World} {ch t15 t35 : Int} {evs : List Ev} {vo : Value} {E : Int} {F : List Fz} (h : SplitOk w w' ch t15 t35 evs vo E) (h1 : evs.all inR = true) (h2 : ordE 0 evs = true) (h3 : framesS ch t15 t35 evs = F) :
    E = 0 ∧ Below w.heap.size w w' ∧ ∃ (l : List Fr) (Ao : Option Addr) (co : Nat), vo = .slice Ao F.length co ∧ Rd w' w'.heap.size 4 Ao F.length (frCells l) ∧ (∀ f ∈ l, FrOk w' (fun _ => False) f) ∧ l.map fz = F := by
  rcases h with ⟨hb, ⟨k, _⟩ | ⟨_, k, _⟩ | ⟨_, _, rfl, l, Ao, co, rfl, hr, hf, hl⟩⟩
  · rw [h1] at k; cases k
  · rw [h2] at k; cases k
  · rw [h3] at hl
    have hn : l.length = F.length := by rw [← hl]; simp
    rw [hn] at hr
    exact ⟨rfl, hb, l, Ao, co, by rw [hn], hr, hf, hl⟩
deriving instance DecidableEq for Fz
abbrev evA : List Ev := [⟨287, 1, 0⟩, ⟨574, 2, 0⟩, ⟨2611, 3, 0⟩]
abbrev evB : List Ev := [⟨287, 1, 0⟩, ⟨574, 2, 0⟩, ⟨2000, 3, 0⟩]
theorem framesA : framesS 287 750 1750 evA = [⟨[1, 2], 287, 574, 0⟩, ⟨[3], 2611, 2611, 0⟩] := by decide +kernel
theorem framesB : framesS 287 750 1750 evB = [⟨[1, 2, 3], 287, 2000, 4⟩] := by decide +kernel
set_option maxHeartbeats 2000000 in
theorem awake_any (w : World) : Calls Try.prog 13 #[] w fun e w' => e = .returned (.bool true) ∧ Below w.heap.size w w' := by
  have HA := Lib.hid (fun (W : World) (b : Nat) (B : Nat) (hr : Rd W B 3 (some ⟨b, 0, none⟩) 3 (evCells evA)) (hB : B ≤ W.heap.size) => split_ok 38400 0 287 750 1750 (by decide) (by decide) (by decide) (by decide) evA (some ⟨b, 0, none⟩) 3 3 B W hr hB (by omega))
  have HB := Lib.hid (fun (W : World) (b : Nat) (B : Nat) (hr : Rd W B 3 (some ⟨b, 0, none⟩) 3 (evCells evB)) (hB : B ≤ W.heap.size) => split_ok 38400 0 287 750 1750 (by decide) (by decide) (by decide) (by decide) evB (some ⟨b, 0, none⟩) 3 3 B W hr hB (by omega))
  have hb0 : Below w.heap.size w ((w.alloc (.cells #[.int .i64 38400, .int .i64 0] 23)).alloc (.cells #[.int .i64 287, .int .u8 1, .int .i64 0, .int .i64 574, .int .u8 2, .int .i64 0, .int .i64 2611, .int .u8 3, .int .i64 0] 42)) := ((Below.refl _ _).alloc (Nat.le_refl _) _).alloc (by simp) _
  have HBs := Lib.hid ((Box.alloc_ (w := w) (cs := #[.int .i64 38400, .int .i64 0]) (e := 23)).alloc' (.cells #[.int .i64 287, .int .u8 1, .int .i64 0, .int .i64 574, .int .u8 2, .int .i64 0, .int .i64 2611, .int .u8 3, .int .i64 0] 42))
  go_enter Try.func13, Try.ntmps13
  go_wp2_with fail
  refine (HA.out _ _ (w.heap.size + 2) (by have h := Rd.lit (w := w.alloc (.cells #[.int .i64 38400, .int .i64 0] 23)) (size := 3) (n := 3) (cs := #[.int .i64 287, .int .u8 1, .int .i64 0, .int .i64 574, .int .u8 2, .int .i64 0, .int .i64 2611, .int .u8 3, .int .i64 0]) (e := 42) (fz := (0, 0)) (B := w.heap.size + 2) rfl (by simp); simp at h; exact h) (by simp)).mono ?_
  rintro e w2 ⟨vo, E, rfl, hok⟩
  obtain ⟨rfl, hb2, l, Ao, co, rfl, hr, hf, hl⟩ := hok.get (by decide) (by decide) framesA
  have HB2 := Lib.hid (ext_trans hb0 hb2)
  have HBs2 := Lib.hid (HBs.out.below hb2)
  clear hok hr hf hl hb0 hb2 HBs
  obtain ⟨qs, zs, ls⟩ := HBs2.out
  go_wp2_with fail
  refine (HB.out _ w2.heap.size (w2.heap.size + 1) (Rd.lit rfl (Nat.lt_succ_self _)) (by simp)).mono ?_
  rintro e w3 ⟨vo, E, rfl, hok⟩
  obtain ⟨rfl, hb3, l2, A2, c2, rfl, hr2, hf2, hl2⟩ := hok.get (by decide) (by decide) framesB
  have HB3 := Lib.hid (ext_trans (ext_alloc HB2.out _) hb3)
  obtain ⟨f, rfl⟩ : ∃ f, l2 = [f] := by
    rcases l2 with _ | ⟨f, _ | ⟨g, t⟩⟩
    · cases hl2
    · exact ⟨f, rfl⟩
    · simp at hl2
  have hf4 : f.fl = 4 := by simp [fz] at hl2; exact hl2.2.2.2
  obtain ⟨b, off, rfl, hbl, hc⟩ := hr2.2 (by simp)
  have c3 := hc 3 (.int .i64 f.fl) (by simp [frCells])
  rw [hf4] at c3
  clear hok hr2 hf2 hl2 hb3 hc hf4 qs zs ls
  go_wp2
  go_ret
  exact ⟨rfl, HB3.out⟩
end Go.Proofs.Ythgapllfjllnfaa

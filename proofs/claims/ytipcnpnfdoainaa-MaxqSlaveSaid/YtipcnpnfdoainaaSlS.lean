/- Settings: the plain words and the reference Valid (the program side left out). -/
import Derived.Test.YtipcnpnfdoainaaRows
import Derived.Test.YtipcnpnfdoainaaLib2
import Derived.Deep.RegionHeld3
set_option linter.unusedVariables false
set_option linter.unusedSimpArgs false
namespace Go.Proofs.Ytipcnpnfdoainaa
open Go.RowKit

abbrev bauds : List Int := [1200, 2400, 4800, 9600, 19200, 38400, 57600, 115200]
def validB (b p : Int) : Bool := decide (b ∈ bauds) && decide (0 ≤ p ∧ p ≤ 2)
abbrev i64s (xs : List Int) : List Value := xs.map (Value.int .i64)
theorem Bauds_any (w : World) : Calls Try.prog 42 #[] w fun e w' =>
    ∃ A, e = .returned (.slice A 8 8) ∧ Rd w' w'.heap.size 1 A 8 (i64s bauds) ∧ Below w.heap.size w w' := by
  go_enter Try.func42, Try.ntmps42
  go_wp2
  go_ret
  exact ⟨_, rfl, Rd.lit rfl (by simp), (Below.refl _ _).alloc (Nat.le_refl _) _⟩
theorem i64s_get (xs : List Int) (k : Nat) (h : k < xs.length) : (i64s xs)[k]? = some (.int .i64 xs[k]) := by simp [i64s, List.getElem?_eq_getElem h]
abbrev stRow (s : Int × Int) : List Value := [.int .i64 s.1, .int .i64 s.2]
abbrev stCells (l : List (Int × Int)) : List Value := (l.map stRow).flatten
def allL : List (Int × Int) := bauds.flatMap fun b => [(b, 0), (b, 1), (b, 2)]
theorem all_length : allL.length = 24 := by decide
theorem all_get (i p : Nat) (hi : i < 8) (hp : p < 3) : allL[3 * i + p]? = some (bauds.getD i 0, (p : Int)) := by
  have : ∀ i : Fin 8, ∀ p : Fin 3, allL[3 * (i : Nat) + (p : Nat)]? = some (bauds.getD (i : Nat) 0, ((p : Nat) : Int)) := by decide
  exact this ⟨i, hi⟩ ⟨p, hp⟩
theorem all_take (i p : Nat) (hi : i < 8) (hp : p < 3) : stCells (allL.take (3 * i + p + 1)) = stCells (allL.take (3 * i + p)) ++ [.int .i64 (bauds.getD i 0), .int .i64 p] := by
  have h := all_get i p hi hp
  have hl : 3 * i + p < allL.length := by rw [all_length]; omega
  rw [List.take_succ_eq_append_getElem hl]
  have e : allL[3 * i + p] = (bauds.getD i 0, (p : Int)) := by rw [List.getElem?_eq_getElem hl] at h; exact Option.some.inj h
  rw [e]
  simp [stCells, stRow]
theorem setInfo : (Try.prog.info? 48).map (fun i => (i.zero, i.size, i.bytes)) = some (some (.agg #[.int .i64 0, .int .i64 0]), 2, 16) := by kernel_rfl
set_option maxHeartbeats 1000000 in
theorem all_any (w : World) : Calls Try.prog 38 #[] w fun e w' =>
    ∃ A c, e = .returned (.slice A 24 c) ∧ w'.ownsRow w.heap.size 48 2 (.slice A 24 c) 24 (stCells allL) ∧ Below w.heap.size w w' := by
  go_enter Try.func38, Try.ntmps38
  go_wp2_with fail
  refine (Bauds_any _).mono ?_
  rintro e w1 ⟨A1, rfl, hR1, hb1⟩
  go_wp2
  go_loopw [1, 3, 4] (fun v i u wr => ∃ k : Nat, k ≤ 8 ∧ i = .int .i64 k ∧ wr.ownsRow w1.heap.size 48 2 v (3 * k) (stCells (allL.take (3 * k))) ∧ Below w1.heap.size w1 wr) (fun _ i _ _ => 8 - (intOf i).toNat)
  case atStart => exact ⟨0, by omega, rfl, World.ownsRow_nil _ _ _ _, Below.refl _ _⟩
  case round =>
    obtain ⟨i, hi, rfl, hown, hbel⟩ := hrel
    by_cases hlt : i < 8
    · obtain ⟨wo, rfl⟩ : ∃ wo : World, wo = wr := ⟨_, rfl⟩
      have hlt' : (i : Int) < 8 := by omega
      go_wp2
      go_loopw [1, 4] (fun v u wr => ∃ p : Nat, p ≤ 3 ∧ u = .int .i64 p ∧ wr.ownsRow w1.heap.size 48 2 v (3 * i + p) (stCells (allL.take (3 * i + p))) ∧ Below w1.heap.size w1 wr) (fun _ u _ => 3 - (intOf u).toNat)
      case atStart => exact ⟨0, by omega, rfl, hown, hbel⟩
      case round =>
        obtain ⟨p, hp, rfl, hown2, hbel2⟩ := hrel
        by_cases hlp : p < 3
        · have hlp' : (p : Int) < 3 := by omega
          obtain ⟨b, off, e, _, hc⟩ := (hR1.below hbel2 (Nat.le_refl _)).2 (by omega)
          have hcell := hc i (.int .i64 (bauds.getD i 0)) (by rw [i64s_get bauds i hlt]; simp [List.getD, List.getElem?_eq_getElem (show i < bauds.length from hlt)])
          obtain ⟨z, hz⟩ : ∃ z, bauds.getD i 0 = z := ⟨_, rfl⟩
          have hat := all_take i p hlt hlp
          rw [hz] at hcell hat
          have HAT := Lib.hid hat
          clear hat hc hz
          subst e
          have hsz := hbel2.size
          go_wp2_with (at_builtin; refine wpList_app (.tmp 16) (.tmp 23) 80 w1.heap.size 48 _ 2 16 _ (3 * i + p) 1 1 _ Try.underlying80 setInfo rfl (by decide) rfl rfl rfl rfl hown2 rfl (by simp [Value.oneCell']) (by omega) (by omega) hsz ?_; intro v1 w2 hown3 hg3 hb3)
          refine ⟨⟨p + 1, by omega, by go_num, ?_, hbel2.trans hb3⟩, by simp [intOf]; omega⟩
          rw [show 3 * i + (p + 1) = 3 * i + p + 1 from rfl, HAT.out]
          exact hown3
        · obtain rfl : p = 3 := by omega
          go_wp2
          refine ⟨⟨i + 1, by omega, by go_num, ?_, hbel2⟩, by simp [intOf]; omega⟩
          rw [show 3 * (i + 1) = 3 * i + 3 by omega]
          exact hown2
    · obtain rfl : i = 8 := by omega
      go_wp2
      go_ret
      rw [show 3 * 8 = 24 from rfl, List.take_of_length_le (by rw [all_length]; exact Nat.le_refl _)] at hown
      obtain ⟨A, c, rfl, _, _⟩ := own_form hown
      exact ⟨A, c, rfl, own_mono hown hb1.size, ext_trans hb1 hbel⟩
theorem st_get0 (l : List (Int × Int)) (k : Nat) (h : k < l.length) : (stCells l)[k * 2]? = some (.int .i64 (l[k]).1) ∧ (stCells l)[k * 2 + 1]? = some (.int .i64 (l[k]).2) := by
  induction l generalizing k with
  | nil => simp at h
  | cons s l ih =>
    rcases k with _ | k
    · simp [stCells, stRow]
    · have := ih k (by simpa using h)
      rw [show (k + 1) * 2 = k * 2 + 2 by omega, show k * 2 + 2 + 1 = k * 2 + 1 + 2 by omega]
      simpa [stCells, stRow] using this
theorem valid_mem (b p : Int) : validB b p = decide ((b, p) ∈ allL) := by
  rw [Bool.eq_iff_iff]
  simp only [validB, Bool.and_eq_true, decide_eq_true_eq, allL, List.mem_flatMap]
  constructor
  · rintro ⟨h, h1, h2⟩
    refine ⟨b, h, ?_⟩
    rcases (show p = 0 ∨ p = 1 ∨ p = 2 by omega) with rfl | rfl | rfl <;> simp
  · rintro ⟨c, hc, h⟩
    simp only [List.mem_cons, Prod.mk.injEq, List.not_mem_nil, or_false] at h
    rcases h with ⟨rfl, rfl⟩ | ⟨rfl, rfl⟩ | ⟨rfl, rfl⟩ <;> exact ⟨hc, by omega, by omega⟩
set_option maxHeartbeats 1000000 in
theorem refValid_any (b p : Int) (r : Bool) (hr : validB b p = r) (w : World) : Calls Try.prog 31 #[.agg #[.int .i64 b, .int .i64 p]] w fun e w' => e = .returned (.bool r) ∧ Below w.heap.size w w' := by
  rw [valid_mem] at hr
  have HR := Lib.hid hr; clear hr
  go_enter Try.func31, Try.ntmps31
  go_wp2_with fail
  refine (all_any _).mono ?_
  rintro e w1 ⟨A, c, rfl, hown, hb1⟩
  obtain ⟨q1, z1, l1⟩ := box_new hb1
  have hbw : Below w.heap.size w w1 := ext_alloc' (Below.refl _ w) (by simpa using hb1)
  have hR := Rd.of_own hown
  clear hb1 hown
  go_wp2
  go_loopw [4] (fun i wr => ∃ k : Nat, k ≤ 24 ∧ i = .int .i64 k ∧ (b, p) ∉ allL.take k ∧ Below w1.heap.size w1 wr) (fun i _ => 24 - (intOf i).toNat)
  case atStart => exact ⟨0, by omega, rfl, by simp, Below.refl _ _⟩
  case round =>
    obtain ⟨k, hk, rfl, hnot, hb2⟩ := hrel
    have HN := Lib.hid hnot; clear hnot
    have hbw2 : Below w.heap.size w wr := ext_trans hbw hb2
    by_cases hlt : k < 24
    · have hlt' : (k : Int) < 24 := by omega
      obtain ⟨q2, _, l2⟩ := box_keep q1 z1 l1 hb2
      have b0 : wr.cell? ⟨w.heap.size, 0, none⟩ = some (.int .i64 b) := q2 0
      have b1 : wr.cell? ⟨w.heap.size, 1, none⟩ = some (.int .i64 p) := q2 1
      clear q2
      obtain ⟨g, off, rfl, _, hc⟩ := (hR.below hb2 (Nat.le_refl _)).2 (by omega)
      have hl : k < allL.length := by rw [all_length]; exact hlt
      obtain ⟨e0, e1⟩ := st_get0 allL k hl
      have c0 := hc _ _ e0
      have c1 := hc _ _ e1
      obtain ⟨x, hx⟩ : ∃ x, (allL[k]).1 = x := ⟨_, rfl⟩
      obtain ⟨y, hy⟩ : ∃ y, (allL[k]).2 = y := ⟨_, rfl⟩
      rw [hx] at c0
      rw [hy, ← Nat.add_assoc] at c1
      have hxy : allL[k] = (x, y) := Prod.ext hx hy
      clear hc e0 e1 hx hy
      by_cases heq : x = b ∧ y = p
      · have hm : r = true := by
          rw [← HR.out, decide_eq_true_eq, ← heq.1, ← heq.2, ← hxy]; exact List.getElem_mem hl
        subst hm
        have h1 : (x == b) = true := by simpa using heq.1
        have h2 : (y == p) = true := by simpa using heq.2
        clear heq hxy
        go_wp2
        go_quiet (fail)
        go_wp2
        go_ret
        exact ⟨rfl, ext_drewN hbw2 _⟩
      · have hn : (b, p) ∉ allL.take (k + 1) := by
          rw [List.take_succ_eq_append_getElem hl, hxy]
          simp only [List.mem_append, List.mem_singleton, Prod.mk.injEq]
          rintro (h | ⟨rfl, rfl⟩)
          · exact HN.out h
          · exact heq ⟨rfl, rfl⟩
        have HN2 := Lib.hid hn; clear hn
        have h1 : ((x == b) && (y == p)) = false := by simpa using heq
        clear heq hxy
        rcases Bool.and_eq_false_iff.1 h1 with h2 | h2
        all_goals
          clear h1
          go_wp2
          go_quiet (fail)
          go_wp2
          exact ⟨⟨k + 1, by omega, by go_num, HN2.out, below_drewN hb2 _⟩, by simp [intOf]; omega⟩
    · obtain rfl : k = 24 := by omega
      have hm : r = false := by
        rw [← HR.out, decide_eq_false_iff_not]
        have := HN.out
        rwa [List.take_of_length_le (by rw [all_length]; exact Nat.le_refl _)] at this
      subst hm
      go_wp2
      go_ret
      exact ⟨rfl, hbw2⟩
end Go.Proofs.Ytipcnpnfdoainaa

/- Layer 22: contracts of the reference's Result, of SameObjects (of lists of the same contents). -/
import Derived.Test.YtpbmolijoadonaaIdR
set_option linter.unusedVariables false
set_option linter.unusedSimpArgs false
namespace Go.Proofs.Ytpbmolijoadonaa
open Go.RowKit

set_option maxRecDepth 100000 in
set_option maxHeartbeats 2000000 in
theorem rresult_any (S : Ist) (g : Nat) (F : Nat → Prop) (row : Option Nat) (w : World) (hS : IdAt w g F row S) :
    Calls Try.prog 13 #[iptr g] w (ResOk S w) := by
  obtain ⟨lv, nx, rp, v, l, hrow, hB, hO, hfr, hV, h4, h5⟩ := hS
  obtain ⟨q0, z0, lz0⟩ := hB
  by_cases h2 : S.st = 2
  · obtain ⟨rfl, hcon⟩ := h4 (.inr h2)
    have hL : resL S = S.lv := by rw [resL, if_pos h2]
    have hR : resO S = S.os := by rw [resO, if_pos h2]
    rw [h2] at q0
    obtain ⟨A0, c0, hv0, _, hR0⟩ := own_form hO
    subst hv0
    have hfin : ∀ w', Below w.heap.size w w' → ResOk S w (.returned (.tuple #[.int .i64 2, .int .i64 S.lv, .slice A0 l.length c0])) w' := fun w' hb => by
      rw [ResOk, hL, hR, h2]
      exact ⟨A0, _, c0, l, rfl, ObRd.below ⟨hR0, fun x hx => (hV x hx).1⟩ hb, rfl, hcon, hb⟩
    have HFN := Lib.hid hfin
    have y0 : w.cell? ⟨g, 0, none⟩ = some (.int .i64 2) := q0 0
    have y1 : w.cell? ⟨g, 1, none⟩ = some (.int .i64 S.lv) := q0 1
    have y2 : w.cell? ⟨g, 2, none⟩ = some (.slice A0 l.length c0) := q0 2
    clear h4 h5 hcon hL hR hfin hO hR0 hV hfr h2 hrow q0
    go_enter Try.func13, Try.ntmps13
    go_upto_region 3 with fail
    go_quiet (fail)
    go_wp2
    go_ret3
    exact HFN.out _ (below_drewN (Below.refl _ _) _)
  · have hL : resL S = 0 := by rw [resL, if_neg h2]
    have hR : resO S = [] := by rw [resO, if_neg h2]
    obtain ⟨st, hst⟩ : ∃ st, S.st = st := ⟨_, rfl⟩
    have hfin : ∀ w', Below w.heap.size w w' → ResOk S w (.returned (.tuple #[.int .i64 st, .int .i64 0, .slice none 0 0])) w' := fun w' hb => ⟨none, 0, 0, [], by rw [hL, hst], ⟨Rd.nil_, fun x hx => by simp at hx⟩, rfl, by rw [hR]; rfl, hb⟩
    have HFN := Lib.hid hfin
    rw [hst] at q0 h2
    have hd : (st != 2) = true := by simpa using h2
    clear h4 h5 hL hR hfin hO hV hfr h2 hrow hst
    go_enter Try.func13, Try.ntmps13
    go_wp2
    go_ret3
    exact HFN.out _ (Below.refl _ _)

set_option maxRecDepth 100000 in
set_option maxHeartbeats 4000000 in
theorem same_any (l m : List Ob) (A A2 : Option Addr) (n c c2 : Nat) (w : World) (h : ObRd w A l) (h2 : ObRd w A2 m) (hn : l.length = n) (hn5 : n ≤ 100000) (hc : con l = con m) :
    Calls Try.prog 14 #[.slice A n c, .slice A2 n c2] w fun e w' => e = .returned (.bool true) ∧ Below w.heap.size w w' := by
  have hm : m.length = n := by have := congrArg List.length hc; simp only [con, List.length_map] at this; omega
  obtain ⟨h1, h3⟩ := h
  obtain ⟨k1, k3⟩ := h2
  rw [hn] at h1
  rw [hm] at k1
  have HR := Lib.hid h1
  have HR2 := Lib.hid k1
  have HX := Lib.hid h3
  have HX2 := Lib.hid k3
  have HC := Lib.hid hc
  have HM := Lib.hid hm
  clear h1 h3 k1 k3 hc hm hn
  go_enter Try.func14, Try.ntmps14
  go_wp2
  go_loopw [5] (fun i wr => ∃ k : Nat, k ≤ n ∧ i = .int .i64 k ∧ ∃ z, wr = w.drewN z) (fun i _ => n - (intOf i).toNat)
  case atStart => exact ⟨0, by omega, rfl, 0, rfl⟩
  case round =>
    obtain ⟨k, hk, rfl, z, rfl⟩ := hrel
    by_cases hlt : k < n
    · obtain ⟨b1, o1, rfl, _, hk1, x0, x1⟩ := ob_at HR.out k hlt
      obtain ⟨b2, o2, rfl, _, hk2, y0, y1⟩ := ob_at HR2.out k hlt
      have hh : (l[k].id, l[k].val) = (m[k].id, m[k].val) := by
        have := congrArg (fun t => t[k]?) HC.out
        simp only [con, List.getElem?_map, List.getElem?_eq_getElem hk1, List.getElem?_eq_getElem hk2, Option.map_some, Option.some.injEq] at this
        exact this
      have hr1 := HX.out l[k] (List.getElem_mem hk1)
      have hr2 := HX2.out m[k] (List.getElem_mem hk2)
      obtain ⟨a, ha⟩ : ∃ a, l[k] = a := ⟨_, rfl⟩
      obtain ⟨b, hb⟩ : ∃ b, m[k] = b := ⟨_, rfl⟩
      rw [ha] at x0 x1 hh hr1
      rw [hb] at y0 y1 hh hr2
      clear ha hb
      obtain ⟨aid, aA, an, ac, av⟩ := a
      obtain ⟨bid, bA, bn, bc, bv⟩ := b
      dsimp only at x0 x1 y0 y1 hh hr1 hr2
      injection hh with hh1 hh2
      subst hh1 hh2
      obtain ⟨st, hst⟩ : ∃ st, strOfNums av = st := ⟨_, rfl⟩
      have s1 : ∀ q, (convert 40 9 (.slice aA an ac)).run Try.prog (w.drewN q) = .ok (.string st) (w.drewN q) := fun q => by
        rw [← hst]; exact Rd.str (w := w.drewN q) (hr1.keep (w' := w.drewN q) (fun p hp => rfl))
      have s2 : ∀ q, (convert 40 9 (.slice bA bn bc)).run Try.prog (w.drewN q) = .ok (.string st) (w.drewN q) := fun q => by
        rw [← hst]; exact Rd.str (w := w.drewN q) (hr2.keep (w' := w.drewN q) (fun p hp => rfl))
      clear hst hr1 hr2
      go_upto_region 6 with fail
      go_quiet (fail)
      go_wp2_with fail
      go_roundw
      case rel => refine ⟨k + 1, by omega, by go_num, ?_⟩; first | exact ⟨_, by simp [World.drewN, Nat.add_assoc]; rfl⟩ | exact ⟨_, rfl⟩
      case measure => simp [intOf]; omega
    · obtain rfl : k = n := by omega
      go_wp2
      go_ret
      exact ⟨rfl, below_drewN (Below.refl _ _) z⟩
end Go.Proofs.Ytpbmolijoadonaa

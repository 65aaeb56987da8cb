/- Layer 22: contracts of Next (the program's and the reference's), ordered, good, SameObjects. -/
import Derived.Test.YtpbmolijoadonaaIdA
import Derived.Deep.QuietTactic
import Derived.BigQuiet
set_option linter.unusedVariables false
set_option linter.unusedSimpArgs false
namespace Go.Proofs.Ytpbmolijoadonaa
open Go.RowKit

def rqV (f c o : Int) : Value := .agg #[.int .i64 f, .int .i64 0, .int .i64 0, .int .i64 c, .int .i64 o]
def nextV (S : Ist) : Value := if S.st = 0 then .tuple #[rqV 43 3 S.ask, .bool true] else .tuple #[rqV 0 0 0, .bool false]
theorem box_put5 {w : World} {b : Nat} {c0 c1 c2 c3 c4 : Value} (h : Box w b #[c0, c1, c2, c3, c4]) (v0 v1 v2 v3 v4 : Value) :
    Box (((((w.setCell ⟨b, 0, none⟩ v0).setCell ⟨b, 1, none⟩ v1).setCell ⟨b, 2, none⟩ v2).setCell ⟨b, 3, none⟩ v3).setCell ⟨b, 4, none⟩ v4) b #[v0, v1, v2, v3, v4] :=
  ((((h.set (k := 0) (v := v0) (cs' := #[v0, c1, c2, c3, c4]) (by simp) rfl).set (k := 1) (v := v1) (cs' := #[v0, v1, c2, c3, c4]) (by simp) rfl).set (k := 2) (v := v2) (cs' := #[v0, v1, v2, c3, c4]) (by simp) rfl).set (k := 3) (v := v3) (cs' := #[v0, v1, v2, v3, c4]) (by simp) rfl).set (k := 4) (v := v4) (cs' := #[v0, v1, v2, v3, v4]) (by simp) rfl
theorem below_put5 {w0 w : World} {B b : Nat} (h : Below B w0 w) (hb : B ≤ b) (v0 v1 v2 v3 v4 : Value) :
    Below B w0 (((((w.setCell ⟨b, 0, none⟩ v0).setCell ⟨b, 1, none⟩ v1).setCell ⟨b, 2, none⟩ v2).setCell ⟨b, 3, none⟩ v3).setCell ⟨b, 4, none⟩ v4) :=
  ((((h.setCell (p := ⟨b, 0, none⟩) hb v0).setCell (p := ⟨b, 1, none⟩) hb v1).setCell (p := ⟨b, 2, none⟩) hb v2).setCell (p := ⟨b, 3, none⟩) hb v3).setCell (p := ⟨b, 4, none⟩) hb v4

set_option maxHeartbeats 1000000 in
theorem next_any (S : Ist) (g : Nat) (F : Nat → Prop) (row : Option Nat) (w : World) (hS : IdAt w g F row S) :
    Calls Try.prog 10 #[iptr g] w fun e w' => e = .returned (nextV S) ∧ Below w.heap.size w w' := by
  obtain ⟨lv, nx, rp, v, l, _, hB, _, _, _, _, h5⟩ := hS
  obtain ⟨st, hst⟩ : ∃ st, S.st = st := ⟨_, rfl⟩
  rw [hst] at hB h5
  have hgl := hB.2.2
  obtain ⟨q, z, _⟩ := hB.alloc' (.cells #[.int .i64 0, .int .i64 0, .int .i64 0, .int .i64 0, .int .i64 0] 32)
  have HB0 := Lib.hid (Box.alloc_ (w := w) (cs := #[.int .i64 0, .int .i64 0, .int .i64 0, .int .i64 0, .int .i64 0]) (e := 32))
  have hb0 : Below w.heap.size w (w.alloc (.cells #[.int .i64 0, .int .i64 0, .int .i64 0, .int .i64 0, .int .i64 0] 32)) := (Below.refl _ _).alloc (Nat.le_refl _) _
  obtain ⟨q0, z0, l0⟩ := HB0.out
  by_cases h0 : st = 0
  · obtain ⟨rfl, rfl⟩ := h5 h0
    subst h0
    have HV := Lib.hid (show nextV S = .tuple #[rqV 43 3 S.ask, .bool true] by rw [nextV, if_pos hst])
    have hBf := Box.alloc_ (w := w) (cs := #[.int .i64 43, .int .i64 0, .int .i64 0, .int .i64 3, .int .i64 S.ask]) (e := 32)
    have hbf : Below w.heap.size w (w.alloc (.cells #[.int .i64 43, .int .i64 0, .int .i64 0, .int .i64 3, .int .i64 S.ask] 32)) := (Below.refl _ _).alloc (Nat.le_refl _) _
    have HBf := Lib.hid hBf
    clear h5 hst hB hBf
    go_enter Try.func10, Try.ntmps10
    go_wp2
    obtain ⟨qf, zf, lf⟩ := HBf.out
    refine bodyPost_ret (v := .tuple #[rqV 43 3 S.ask, .bool true]) (by simp [results, Try.results10, go_sem, qf, zf, lf, rqV]) rfl ⟨by rw [HV.out], hbf⟩
  · have HV := Lib.hid (show nextV S = .tuple #[rqV 0 0 0, .bool false] by rw [nextV, if_neg (by rw [hst]; exact h0)])
    have hd : (st == 0) = false := by simpa using h0
    have hd2 : (st != 0) = true := by simpa using h0
    have hBf := Box.alloc_ (w := w) (cs := #[.int .i64 0, .int .i64 0, .int .i64 0, .int .i64 0, .int .i64 0]) (e := 32)
    have hbf : Below w.heap.size w (w.alloc (.cells #[.int .i64 0, .int .i64 0, .int .i64 0, .int .i64 0, .int .i64 0] 32)) := (Below.refl _ _).alloc (Nat.le_refl _) _
    have HBf := Lib.hid hBf
    clear h5 hst hB hBf h0
    go_enter Try.func10, Try.ntmps10
    go_wp2
    obtain ⟨qf, zf, lf⟩ := HBf.out
    refine bodyPost_ret (v := .tuple #[rqV 0 0 0, .bool false]) (by simp [results, Try.results10, go_sem, qf, zf, lf, rqV]) rfl ⟨by rw [HV.out], hbf⟩
set_option maxHeartbeats 1000000 in
theorem rnext_any (S : Ist) (g : Nat) (F : Nat → Prop) (row : Option Nat) (w : World) (hS : IdAt w g F row S) :
    Calls Try.prog 11 #[iptr g] w fun e w' => e = .returned (nextV S) ∧ Below w.heap.size w w' := by
  obtain ⟨lv, nx, rp, v, l, _, hB, _, _, _, _, h5⟩ := hS
  obtain ⟨st, hst⟩ : ∃ st, S.st = st := ⟨_, rfl⟩
  rw [hst] at hB h5
  have hgl := hB.2.2
  obtain ⟨q, z, _⟩ := hB.alloc' (.cells #[.int .i64 0, .int .i64 0, .int .i64 0, .int .i64 0, .int .i64 0] 32)
  have HB0 := Lib.hid (Box.alloc_ (w := w) (cs := #[.int .i64 0, .int .i64 0, .int .i64 0, .int .i64 0, .int .i64 0]) (e := 32))
  have hb0 : Below w.heap.size w (w.alloc (.cells #[.int .i64 0, .int .i64 0, .int .i64 0, .int .i64 0, .int .i64 0] 32)) := (Below.refl _ _).alloc (Nat.le_refl _) _
  obtain ⟨q0, z0, l0⟩ := HB0.out
  by_cases h0 : st = 0
  · obtain ⟨rfl, rfl⟩ := h5 h0
    subst h0
    have HV := Lib.hid (show nextV S = .tuple #[rqV 43 3 S.ask, .bool true] by rw [nextV, if_pos hst])
    have hBf := Box.alloc_ (w := w) (cs := #[.int .i64 43, .int .i64 0, .int .i64 0, .int .i64 3, .int .i64 S.ask]) (e := 32)
    have hbf : Below w.heap.size w (w.alloc (.cells #[.int .i64 43, .int .i64 0, .int .i64 0, .int .i64 3, .int .i64 S.ask] 32)) := (Below.refl _ _).alloc (Nat.le_refl _) _
    have HBf := Lib.hid hBf
    clear h5 hst hB hBf
    go_enter Try.func11, Try.ntmps11
    go_wp2
    obtain ⟨qf, zf, lf⟩ := HBf.out
    refine bodyPost_ret (v := .tuple #[rqV 43 3 S.ask, .bool true]) (by simp [results, Try.results11, go_sem, qf, zf, lf, rqV]) rfl ⟨by rw [HV.out], hbf⟩
  · have HV := Lib.hid (show nextV S = .tuple #[rqV 0 0 0, .bool false] by rw [nextV, if_neg (by rw [hst]; exact h0)])
    have hd : (st == 0) = false := by simpa using h0
    have hd2 : (st != 0) = true := by simpa using h0
    have hBf := Box.alloc_ (w := w) (cs := #[.int .i64 0, .int .i64 0, .int .i64 0, .int .i64 0, .int .i64 0]) (e := 32)
    have hbf : Below w.heap.size w (w.alloc (.cells #[.int .i64 0, .int .i64 0, .int .i64 0, .int .i64 0, .int .i64 0] 32)) := (Below.refl _ _).alloc (Nat.le_refl _) _
    have HBf := Lib.hid hBf
    clear h5 hst hB hBf h0
    go_enter Try.func11, Try.ntmps11
    go_wp2
    obtain ⟨qf, zf, lf⟩ := HBf.out
    refine bodyPost_ret (v := .tuple #[rqV 0 0 0, .bool false]) (by simp [results, Try.results11, go_sem, qf, zf, lf, rqV]) rfl ⟨by rw [HV.out], hbf⟩
theorem next_nil (w : World) : Calls Try.prog 10 #[.pointer none] w fun e w' => e = .returned (.tuple #[rqV 0 0 0, .bool false]) ∧ Below w.heap.size w w' := by
  have hbf : Below w.heap.size w (w.alloc (.cells #[.int .i64 0, .int .i64 0, .int .i64 0, .int .i64 0, .int .i64 0] 32)) := (Below.refl _ _).alloc (Nat.le_refl _) _
  have HBf := Lib.hid (Box.alloc_ (w := w) (cs := #[.int .i64 0, .int .i64 0, .int .i64 0, .int .i64 0, .int .i64 0]) (e := 32))
  go_enter Try.func10, Try.ntmps10
  go_wp2
  obtain ⟨qf, zf, lf⟩ := HBf.out
  refine bodyPost_ret (v := .tuple #[rqV 0 0 0, .bool false]) (by simp [results, Try.results10, go_sem, qf, zf, lf, rqV]) rfl ⟨rfl, hbf⟩
end Go.Proofs.Ytpbmolijoadonaa

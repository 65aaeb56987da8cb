/- A slave in memory; the statements' test 'Slaves' of one slave; the reference's Rising. -/
import Derived.Test.YtipcnpnfdoainaaSlR
import Derived.Test.YtipcnpnfdoainaaObj
import Derived.Test.YtipcnpnfdoainaaBox
import Derived.Deep.QuietTactic
import Derived.BigQuiet
set_option linter.unusedVariables false
set_option linter.unusedSimpArgs false
namespace Go.Proofs.Ytipcnpnfdoainaa
open Go.RowKit

/-- A table of a slave: its cells, and what its list reads. -/
structure Tb where
  sup : Bool
  A : Option Addr
  n : Nat
  c : Nat
  rs : List Rg
  most : Int
structure Sl where
  b : Int
  p : Int
  u : Int
  tb : Nat → Tb
  lv : Int
  oA : Option Addr
  on_ : Nat
  oc : Nat
  obs : List Ob
  hs : Bool
  sA : Option Addr
  sn : Nat
  sc : Nat
  sv : List Int
def slCells (S : Sl) : Array Value := #[.int .i64 S.b, .int .i64 S.p, .int .i64 S.u,
  .bool (S.tb 0).sup, .slice (S.tb 0).A (S.tb 0).n (S.tb 0).c, .int .i64 (S.tb 0).most,
  .bool (S.tb 1).sup, .slice (S.tb 1).A (S.tb 1).n (S.tb 1).c, .int .i64 (S.tb 1).most,
  .bool (S.tb 2).sup, .slice (S.tb 2).A (S.tb 2).n (S.tb 2).c, .int .i64 (S.tb 2).most,
  .bool (S.tb 3).sup, .slice (S.tb 3).A (S.tb 3).n (S.tb 3).c, .int .i64 (S.tb 3).most,
  .int .i64 S.lv, .slice S.oA S.on_ S.oc, .bool S.hs, .slice S.sA S.sn S.sc]
abbrev slV (S : Sl) : Value := .agg (slCells S)
/-- What the slave's slices read, in blocks below B. -/
def Sl.ok (w : World) (B : Nat) (S : Sl) : Prop :=
  (∀ k, k < 4 → Rd w B 2 (S.tb k).A (S.tb k).n (rgCells (S.tb k).rs)) ∧ Rd w B 2 S.oA S.on_ (obCells S.obs) ∧ (∀ o ∈ S.obs, o.ok w B) ∧ Rd w B 1 S.sA S.sn (by8 S.sv)
theorem Ob.ok.below {w w' : World} {B : Nat} {o : Ob} (h : o.ok w B) (hb : Below B w w') : o.ok w' B := ⟨h.1.below hb (Nat.le_refl _), h.2⟩
theorem Sl.ok.below {w w' : World} {B : Nat} {S : Sl} (h : S.ok w B) (hb : Below B w w') : S.ok w' B :=
  ⟨fun k hk => (h.1 k hk).below hb (Nat.le_refl _), h.2.1.below hb (Nat.le_refl _), fun o ho => (h.2.2.1 o ho).below hb, h.2.2.2.below hb (Nat.le_refl _)⟩
theorem sl_tb {w : World} {g : Nat} {S : Sl} (h : Box w g (slCells S)) (k : Nat) (hk : k < 4) :
    w.cell? ⟨g, 3 + k * 3, none⟩ = some (.bool (S.tb k).sup) ∧ w.cell? ⟨g, 3 + k * 3 + 1, none⟩ = some (.slice (S.tb k).A (S.tb k).n (S.tb k).c) ∧ w.cell? ⟨g, 3 + k * 3 + 2, none⟩ = some (.int .i64 (S.tb k).most) := by
  obtain ⟨q, _, _⟩ := h
  match k, hk with
  | 0, _ => exact ⟨q 3, q 4, q 5⟩
  | 1, _ => exact ⟨q 6, q 7, q 8⟩
  | 2, _ => exact ⟨q 9, q 10, q 11⟩
  | 3, _ => exact ⟨q 12, q 13, q 14⟩
def all4 (f : Nat → Bool) : Bool := f 0 && f 1 && f 2 && f 3
theorem all4_iff (f : Nat → Bool) : all4 f = true ↔ ∀ k, k < 4 → f k = true := by
  simp only [all4, Bool.and_eq_true]
  constructor
  · rintro ⟨⟨⟨h0, h1⟩, h2⟩, h3⟩ k hk
    match k, hk with
    | 0, _ => exact h0
    | 1, _ => exact h1
    | 2, _ => exact h2
    | 3, _ => exact h3
  · intro h
    exact ⟨⟨⟨h 0 (by omega), h 1 (by omega)⟩, h 2 (by omega)⟩, h 3 (by omega)⟩
theorem all4_false {f : Nat → Bool} {k : Nat} (hk : k < 4) (h : f k = false) : all4 f = false := by
  rw [Bool.eq_false_iff]
  intro hh
  rw [all4_iff] at hh
  rw [hh k hk] at h
  cases h
def slSmall (S : Sl) : Bool := objSmall S.obs && decide (S.sn ≤ 80) && all4 (fun k => decide ((S.tb k).n ≤ 40))
set_option maxRecDepth 100000 in
set_option maxHeartbeats 4000000 in
theorem slaves_any (S : Sl) (g cc : Nat) (w : World) (hB : Box w g (slCells S)) (hok : Rd w w.heap.size 2 S.oA S.on_ (obCells S.obs)) (hm : S.on_ ≤ maxLen) (r : Bool) (hr : slSmall S = r) :
    Calls Try.prog 18 #[.slice (some ⟨g, 0, none⟩) 1 cc, .int .i64 1] w fun e w' => e = .returned (.bool r) ∧ w = w' := by
  have hol : S.obs.length = S.on_ := by have := hok.1; rw [obCells_length] at this; omega
  obtain ⟨y, hy⟩ : ∃ y, objSmall S.obs = y := ⟨_, rfl⟩
  have HO := Lib.hid (show Calls Try.prog 30 #[.slice S.oA S.on_ S.oc] w (fun e w' => e = .returned (.bool y) ∧ w = w') from by rw [← hy, ← hol]; exact objects_any S.obs S.oA S.oc w.heap.size w (by rw [hol]; exact hok) (by rw [hol]; exact hm))
  unfold slSmall at hr
  rw [hy] at hr
  have HR := Lib.hid hr
  have HT := Lib.hid (fun k hk => sl_tb hB k hk)
  have c16 : w.cell? ⟨g, 16, none⟩ = some (.slice S.oA S.on_ S.oc) := hB.1 16
  have c18 : w.cell? ⟨g, 18, none⟩ = some (.slice S.sA S.sn S.sc) := hB.1 18
  have hgl := hB.2.2
  clear hB hok hol hy hr hm
  go_enter Try.func18, Try.ntmps18
  go_wp2_with fail
  go_loopw [5, 6] (fun i kk x => ∃ m : Nat, m ≤ 1 ∧ i = .int .i64 m ∧ (m = 1 → r = true) ∧ w = x) (fun i _ _ => 1 - (intOf i).toNat)
  case atStart => exact ⟨0, by omega, rfl, (fun h => by cases h), rfl⟩
  case round =>
    obtain ⟨m, hm, rfl, hend, rfl⟩ := hrel
    have HE := Lib.hid hend
    clear hend
    rcases Nat.lt_or_ge m 1 with h | h
    · obtain rfl : m = 0 := by omega
      clear h hm HE
      cases y
      · have HZ := Lib.hid (show r = false by rw [← HR.out]; rfl)
        go_wp2_with fail
        refine HO.out.mono ?_
        rintro e w' ⟨rfl, rfl⟩
        go_wp2
        go_ret
        exact ⟨by rw [HZ.out]; rfl, rfl⟩
      · by_cases hs : S.sn ≤ 80
        · have d1 : decide (80 < (S.sn : Int)) = false := by simp; omega
          have d1n : decide (80 < S.sn) = false := by simp; omega
          have HS := Lib.hid hs
          clear hs
          go_wp2_with fail
          refine HO.out.mono ?_
          rintro e w' ⟨rfl, rfl⟩
          go_wp2_with fail
          go_loopw [6] (fun kk x => ∃ k : Nat, k ≤ 4 ∧ kk = .int .i64 k ∧ (∀ j, j < k → (S.tb j).n ≤ 40) ∧ w = x) (fun kk _ => 4 - (intOf kk).toNat)
          case atStart => exact ⟨0, by omega, rfl, (fun j hj => by omega), by trivial⟩
          case round =>
            obtain ⟨k, hk, rfl, hall, rfl⟩ := hrel
            have HALL := Lib.hid hall
            clear hall
            by_cases hlt : k < 4
            · obtain ⟨t0, t1, t2⟩ := HT.out k hlt
              obtain ⟨T, hT⟩ : ∃ T, S.tb k = T := ⟨_, rfl⟩
              rw [hT] at t0 t1 t2
              have HTK := Lib.hid hT
              clear hT
              by_cases hb : T.n ≤ 40
              · have d2 : decide (40 < (T.n : Int)) = false := by simp; omega
                have d2n : decide (40 < T.n) = false := by simp; omega
                have HN := Lib.hid (show ∀ j, j < k + 1 → (S.tb j).n ≤ 40 from fun j hj => by
                  rcases Nat.lt_or_ge j k with h | h
                  · exact HALL.out j h
                  · rw [show j = k by omega, HTK.out]; exact hb)
                clear hb
                go_wp2_with fail
                go_roundw
                case rel => exact ⟨k + 1, by omega, by go_num, HN.out, by trivial⟩
                case measure => simp [intOf]; omega
              · have d2 : decide (40 < (T.n : Int)) = true := by simp; omega
                have d2n : decide (40 < T.n) = true := by simp; omega
                have HZ := Lib.hid (show r = false by
                  rw [← HR.out]
                  rw [all4_false hlt (decide_eq_false (by rw [HTK.out]; exact hb)), Bool.and_false])
                clear hb
                go_wp2
                go_ret
                exact ⟨by rw [HZ.out]; rfl, rfl⟩
            · obtain rfl : k = 4 := by omega
              have HZ := Lib.hid (show r = true by
                rw [← HR.out, decide_eq_true HS.out]
                rw [Bool.true_and, Bool.true_and, all4_iff]
                exact fun j hj => decide_eq_true (HALL.out j hj))
              clear hlt hk
              go_wp2_with fail
              go_roundw
              case rel => exact ⟨1, by omega, by go_num, fun _ => HZ.out, by trivial⟩
              case measure => simp [intOf]
        · have d1 : decide (80 < (S.sn : Int)) = true := by simp; omega
          have d1n : decide (80 < S.sn) = true := by simp; omega
          have HZ := Lib.hid (show r = false by rw [← HR.out, decide_eq_false hs]; rfl)
          clear hs
          go_wp2_with fail
          refine HO.out.mono ?_
          rintro e w' ⟨rfl, rfl⟩
          go_wp2
          go_ret
          exact ⟨by rw [HZ.out]; rfl, rfl⟩
    · obtain rfl : m = 1 := by omega
      have HZ := Lib.hid (HE.out rfl)
      clear h hm
      go_wp2
      go_ret
      exact ⟨by rw [HZ.out]; rfl, rfl⟩
end Go.Proofs.Ytipcnpnfdoainaa

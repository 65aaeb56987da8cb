/- The reference's Rising of identification objects. -/
import Derived.Test.YtipcnpnfdoainaaSlA
set_option linter.unusedVariables false
set_option linter.unusedSimpArgs false
namespace Go.Proofs.Ytipcnpnfdoainaa
open Go.RowKit

/-- Ascending numbers from 0 to 255, behind p. -/
def risGo (p : Int) : List Ob → Bool
  | [] => true
  | o :: t => decide (0 ≤ o.id ∧ o.id ≤ 255 ∧ p < o.id) && risGo o.id t
def rising (l : List Ob) : Bool := risGo (-1) l
theorem Rd.solen {w : World} {B n : Nat} {A : Option Addr} {l : List Ob} (h : Rd w B 2 A n (obCells l)) : l.length = n := by
  have := h.1; rw [obCells_length] at this; omega
theorem sob_at {w : World} {B n : Nat} {A : Option Addr} {l : List Ob} (h : Rd w B 2 A n (obCells l)) (k : Nat) (hk : k < n) :
    ∃ b off, A = some ⟨b, off, none⟩ ∧ b < B ∧ ∃ hk' : k < l.length, w.cell? ⟨b, off + k * 2, none⟩ = some (.int .i64 l[k].id) ∧ w.cell? ⟨b, off + k * 2 + 1, none⟩ = some (.slice l[k].A l[k].n l[k].c) := by
  have hl := h.solen
  obtain ⟨b, off, e, hb, hc⟩ := h.2 (by omega)
  exact ⟨b, off, e, hb, by omega, hc _ _ (obCells_0 l k (by omega)), hc _ _ (obCells_1 l k (by omega))⟩
theorem ob_drop (l : List Ob) (k : Nat) (hk : k < l.length) : l.drop k = l[k] :: l.drop (k + 1) := List.drop_eq_getElem_cons hk
set_option maxHeartbeats 4000000 in
theorem rising_any (l : List Ob) (A : Option Addr) (n c B : Nat) (w : World) (hr : Rd w B 2 A n (obCells l)) (hn : n ≤ 4611686018427387904) (r : Bool) (hv : rising l = r) :
    Calls Try.prog 33 #[.slice A n c] w fun e w' => e = .returned (.bool r) ∧ Below w.heap.size w w' := by
  have hr := hr.fits (by decide)
  have HL := Lib.hid hr.solen
  have HR := Lib.hid hr
  have HV := Lib.hid hv
  clear hr hv
  go_enter Try.func33, Try.ntmps33
  go_wp2_with fail
  go_loopw [3] (fun i x => ∃ (k : Nat) (p : Int), k ≤ n ∧ i = .int .i64 k ∧ -1 ≤ p ∧ p ≤ 255 ∧ (k = 0 → p = -1) ∧ (∀ j, k = j + 1 → ∃ o, l[j]? = some o ∧ o.id = p) ∧ rising l = risGo p (l.drop k) ∧ Below w.heap.size w x) (fun i _ => n - (intOf i).toNat)
  case atStart => exact ⟨0, -1, by omega, rfl, by omega, by omega, (fun _ => rfl), (fun j h => by omega), rfl, Below.refl _ _⟩
  case round =>
    obtain ⟨k, p, hk, rfl, hp1, hp2, hp0, hpj, hinv, hbw⟩ := hrel
    have HP0 := Lib.hid hp0
    have HPJ := Lib.hid hpj
    have HI := Lib.hid hinv
    have HB := Lib.hid hbw
    clear hp0 hpj hinv hbw
    by_cases hlt : k < n
    · have HRk := Lib.hid (HR.out.below HB.out (Nat.le_refl _))
      obtain ⟨b, off, rfl, hbl, hk', c0, c1⟩ := sob_at HRk.out k hlt
      have hinv := HI.out
      rw [ob_drop l k hk'] at hinv
      obtain ⟨o, ho⟩ : ∃ o, l[k] = o := ⟨_, rfl⟩
      rw [ho] at hinv c0
      simp only [risGo] at hinv
      obtain ⟨id_, hid⟩ : ∃ z, o.id = z := ⟨_, rfl⟩
      rw [hid] at hinv c0
      have HI2 := Lib.hid hinv
      have HO := Lib.hid (show l[k]? = some o ∧ o.id = id_ from ⟨by rw [List.getElem?_eq_getElem hk', ho], hid⟩)
      have fin : ¬ (0 ≤ id_ ∧ id_ ≤ 255 ∧ p < id_) → r = false := by
        intro h; rw [← HV.out, HI2.out, decide_eq_false h]; rfl
      have FIN := Lib.hid fin
      have nxt : (0 ≤ id_ ∧ id_ ≤ 255 ∧ p < id_) → rising l = risGo id_ (l.drop (k + 1)) := by
        intro h; rw [HI2.out, decide_eq_true h, Bool.true_and]
      have NXT := Lib.hid nxt
      clear fin nxt hinv ho hid c1 hk'
      by_cases h1 : id_ < 0
      · obtain rfl := FIN.out (by omega)
        go_wp2_with fail
        go_quiet (fail)
        go_wp2
        go_ret
        exact ⟨rfl, below_drewN HB.out _⟩
      · have d1 : decide (id_ < 0) = false := by simp; omega
        by_cases h2 : 255 < id_
        · obtain rfl := FIN.out (by omega)
          have d2 : decide (255 < id_) = true := by simpa using h2
          go_wp2_with fail
          go_quiet (fail)
          go_wp2
          go_ret
          exact ⟨rfl, below_drewN HB.out _⟩
        · have d2 : decide (255 < id_) = false := by simp; omega
          by_cases h3 : k = 0
          · have HZ := Lib.hid (NXT.out (by have := HP0.out h3; omega))
            have d3 : decide (0 < (k : Int)) = false := by simp; omega
            have d3n : decide (0 < k) = false := by simp; omega
            have HKZ := Lib.hid h3
            have HBD := Lib.hid (show 0 ≤ id_ ∧ id_ ≤ 255 by omega)
            clear h1 h2 h3
            go_wp2_with fail
            go_quiet (fail)
            go_wp2_with fail
            go_roundw
            case rel => exact ⟨k + 1, id_, by omega, by go_num, by have := HBD.out; omega, by have := HBD.out; omega, (fun h => by omega), (fun j hj => by obtain rfl : j = k := (by omega); exact ⟨o, HO.out⟩), HZ.out, by first | exact below_drewN HB.out _ | exact below_drew HB.out⟩
            case measure => simp [intOf]; omega
          · obtain ⟨j, hj⟩ : ∃ j, k = j + 1 := ⟨k - 1, by omega⟩
            obtain ⟨o2, ho2, hid2⟩ := HPJ.out j hj
            obtain ⟨b2, off2, hA2, hb9, hk2, e0, e9⟩ := sob_at HRk.out j (by omega)
            injection hA2 with hA2
            injection hA2 with e1 e2
            subst e1 e2
            rw [List.getElem?_eq_getElem hk2] at ho2
            injection ho2 with ho2
            rw [ho2, hid2] at e0
            have d3 : decide (0 < (k : Int)) = true := by simp; omega
            have d3n : decide (0 < k) = true := by simp; omega
            have k0 : IntKind.i64.wrap ((k : Int) - 1) = (j : Int) := by rw [show (k : Int) - 1 = (j : Int) by omega]; exact IntWalk.i64_in _ ⟨by omega, by omega⟩
            have hjn : j < n := by omega
            clear hj ho2 hid2 hb9 e9 hk2
            by_cases h4 : id_ ≤ p
            · obtain rfl := FIN.out (by omega)
              have d4 : decide (id_ ≤ p) = true := by simpa using h4
              clear h1 h2 h3
              go_wp2_with fail
              go_quiet (fail)
              go_wp2
              go_ret
              exact ⟨rfl, below_drewN HB.out _⟩
            · have d4 : decide (id_ ≤ p) = false := by simp; omega
              have HZ := Lib.hid (NXT.out (by omega))
              have HBD := Lib.hid (show 0 ≤ id_ ∧ id_ ≤ 255 by omega)
              clear h1 h2 h3 h4
              go_wp2_with fail
              go_quiet (fail)
              go_wp2_with fail
              go_roundw
              case rel => exact ⟨k + 1, id_, by omega, by go_num, by have := HBD.out; omega, by have := HBD.out; omega, (fun h => by omega), (fun j hj => by obtain rfl : j = k := (by omega); exact ⟨o, HO.out⟩), HZ.out, by first | exact below_drewN HB.out _ | exact below_drew HB.out⟩
              case measure => simp [intOf]; omega
    · obtain rfl : k = n := by omega
      have hinv := HI.out
      rw [List.drop_of_length_le (by rw [HL.out]; omega)] at hinv
      have hz : r = true := by rw [← HV.out, hinv]; rfl
      subst hz
      clear hinv
      go_wp2
      go_ret
      exact ⟨rfl, HB.out⟩
end Go.Proofs.Ytipcnpnfdoainaa

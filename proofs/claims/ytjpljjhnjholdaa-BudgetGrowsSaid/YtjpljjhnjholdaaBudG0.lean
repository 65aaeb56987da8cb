/- Layer 18: BudgetGrows: one unit more. -/
import Derived.Test.YtjpljjhnjholdaaBudK
set_option linter.unusedVariables false
set_option linter.unusedSimpArgs false
namespace Go.Proofs.Ytjpljjhnjholdaa
open Go.RowKit

def more (x : Cf) : Cf := { x with la := x.la + 1 }
theorem more_check {x : Cf} (h : checkZ x = 0) (h2 : x.la ≠ 247) : checkZ (more x) = 0 := by
  obtain ⟨g1, g2, g3, _⟩ := check_ok h
  have hr : rangeB (more x) = rangeB x := by
    have e1 : inB x.fi 1 (x.la + 1) = true := decide_eq_true (by omega)
    have e2 : decide (247 < x.la + 1) = false := decide_eq_false (by omega)
    have e3 : inB x.fi 1 x.la = true := decide_eq_true (by omega)
    have e4 : decide (247 < x.la) = false := decide_eq_false (by omega)
    show (inB x.fi 1 (x.la + 1) && !decide (247 < x.la + 1) && inB x.re 0 5 && inB x.ti 1 5000000 && inB x.de 0 5000000 && inB x.ev 1 64 && inB x.st 0 1000000) = (inB x.fi 1 x.la && !decide (247 < x.la) && inB x.re 0 5 && inB x.ti 1 5000000 && inB x.de 0 5000000 && inB x.ev 1 64 && inB x.st 0 1000000)
    rw [e1, e2, e3, e4]
  have e : checkZ (more x) = checkZ x := by
    unfold checkZ
    rw [hr]
    rfl
  rw [e, h]
theorem more_att {x : Cf} (h : checkZ x = 0) (h2 : x.la ≠ 247) : attZ (more x) = attZ x + (x.re + 1) * x.ss.length * unitZ x := by
  have hm := more_check h h2
  have e1 : unitZ (more x) = unitZ x := by rw [unitZ, if_pos hm, unitZ, if_pos h]; rfl
  have e2 : unitsZ (more x) = unitsZ x + x.ss.length := by
    rw [unitsZ, if_pos hm, unitsZ, if_pos h]
    show (x.ss.length : Int) * (x.la + 1 - x.fi + 1) = _
    rw [show x.la + 1 - x.fi + 1 = (x.la - x.fi + 1) + 1 by omega, Int.mul_add, Int.mul_one]
  rw [attZ, if_pos hm, attZ, if_pos h, e1, e2]
  show (x.re + 1) * _ * _ = _
  rw [Int.mul_add, Int.add_mul]
theorem att_bd {x : Cf} (h : checkZ x = 0) : 0 < attZ x ∧ attZ x ≤ 346734648 := by
  obtain ⟨h1, h2, h3, h4, h5, h6, h7, _⟩ := check_ok h
  have hub := units_bd x
  have hvb := unit_bd x
  have hu1 : 1 ≤ unitsZ x := by
    rw [unitsZ, if_pos h]
    have := Int.mul_le_mul (show (1 : Int) ≤ x.ss.length by omega) (show (1 : Int) ≤ x.la - x.fi + 1 by omega) (by omega) (by omega)
    omega
  have hv1 : 1 ≤ unitZ x := by
    rw [unitZ, if_pos h]
    have k0 := add_bd 12 x.w0c (by omega) (by omega)
    have k1 := add_bd 12 x.w1c (by omega) (by omega)
    have k2 := add_bd 8 x.w2c (by omega) (by omega)
    have k3 := add_bd 8 x.w3c (by omega) (by omega)
    omega
  rw [attZ, if_pos h]
  have e1 : 1 * 1 ≤ (x.re + 1) * unitsZ x := Int.mul_le_mul (by omega) hu1 (by omega) (by omega)
  have e2 : (x.re + 1) * unitsZ x ≤ 6 * 1482 := Int.mul_le_mul (by omega) (by omega) (by omega) (by omega)
  have e3 : 1 * 1 ≤ (x.re + 1) * unitsZ x * unitZ x := Int.mul_le_mul (by omega) hv1 (by omega) (by omega)
  have e4 : (x.re + 1) * unitsZ x * unitZ x ≤ 6 * 1482 * 38994 := Int.mul_le_mul e2 (by omega) (by omega) (by omega)
  omega

end Go.Proofs.Ytjpljjhnjholdaa

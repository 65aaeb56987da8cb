/- The reference's Size of identification objects. -/
import Derived.Test.YtpbmolijoadonaaSlB
set_option linter.unusedVariables false
set_option linter.unusedSimpArgs false
namespace Go.Proofs.Ytpbmolijoadonaa
open Go.RowKit

/-- The bytes that objects take, counted until they are more than 246. -/
def sizeGo (s : Int) : List Ob → Int
  | [] => s
  | o :: t => if s ≤ 246 then sizeGo (s + (2 + (o.n : Int))) t else s
set_option maxHeartbeats 4000000 in
theorem rsize_any (l : List Ob) (A : Option Addr) (n c B : Nat) (w : World) (hr : Rd w B 2 A n (obCells l)) (hn : n ≤ 1000) (hval : ∀ o ∈ l, o.n ≤ 64) (r : Int) (hv : sizeGo 0 l = r) :
    Calls Try.prog 40 #[.slice A n c] w fun e w' => e = .returned (.int .i64 r) ∧ w = w' := by
  have HL := Lib.hid hr.solen
  have HR := Lib.hid hr
  have HV := Lib.hid hv
  have HVAL := Lib.hid hval
  clear hr hv hval
  go_enter Try.func40, Try.ntmps40
  go_wp2_with fail
  go_loopw [3, 4] (fun sv i x => ∃ (k : Nat) (s : Int), k ≤ n ∧ sv = .int .i64 s ∧ i = .int .i64 k ∧ 0 ≤ s ∧ s ≤ 400 ∧ sizeGo 0 l = sizeGo s (l.drop k) ∧ w = x) (fun _ i _ => n - (intOf i).toNat)
  case atStart => exact ⟨0, 0, by omega, rfl, rfl, by omega, by omega, rfl, by trivial⟩
  case round =>
    obtain ⟨k, s, hk, rfl, rfl, hs1, hs2, hinv, rfl⟩ := hrel
    have HI := Lib.hid hinv
    clear hinv
    by_cases hlt : k < n
    · obtain ⟨b, off, rfl, hbl, hk', c0, c1⟩ := sob_at HR.out k hlt
      have hinv := HI.out
      rw [ob_drop l k hk'] at hinv
      have hov := HVAL.out _ (List.getElem_mem hk')
      obtain ⟨o, ho⟩ : ∃ o, l[k] = o := ⟨_, rfl⟩
      rw [ho] at hinv c1 hov
      simp only [sizeGo] at hinv
      have HI2 := Lib.hid hinv
      have HLT := Lib.hid hlt
      have kw : IntKind.i64.wrap ((k : Int) + 1) = (k : Int) + 1 := IntWalk.i64_in _ ⟨by omega, by omega⟩
      clear hinv ho c0 hk'
      by_cases h2 : s ≤ 246
      · have d2 : decide (s ≤ 246) = true := by simpa using h2
        obtain ⟨m, hm⟩ : ∃ m, o.n = m := ⟨_, rfl⟩
        rw [hm] at c1 hov
        have HN := Lib.hid (show sizeGo 0 l = sizeGo (s + (2 + (m : Int))) (l.drop (k + 1)) by rw [HI2.out, if_pos h2, hm])
        have d3 : decide (300 < (m : Int)) = false := by simp; omega
        have d3n : decide (300 < m) = false := by simp; omega
        have k1 : IntKind.i64.wrap (2 + (m : Int)) = 2 + (m : Int) := IntWalk.i64_in _ ⟨by omega, by omega⟩
        have k2 : IntKind.i64.wrap (s + (2 + (m : Int))) = s + (2 + (m : Int)) := IntWalk.i64_in _ ⟨by omega, by omega⟩
        have HBD := Lib.hid (show 0 ≤ s + (2 + (m : Int)) ∧ s + (2 + (m : Int)) ≤ 400 by omega)
        clear hm
        go_wp2_with fail
        go_roundw
        case rel => exact ⟨k + 1, s + (2 + (m : Int)), by have := HLT.out; omega, rfl, by go_num, HBD.out.1, HBD.out.2, HN.out, by trivial⟩
        case measure => simp [intOf]; have := HLT.out; omega
      · have d2 : decide (s ≤ 246) = false := by simpa using h2
        have hz : s = r := by rw [← HV.out, HI2.out, if_neg h2]
        subst hz
        clear h2
        go_wp2
        go_ret
        exact ⟨rfl, rfl⟩
    · obtain rfl : k = n := by omega
      have hinv := HI.out
      rw [List.drop_of_length_le (by rw [HL.out]; omega)] at hinv
      have hz : s = r := by rw [← HV.out, hinv]; rfl
      subst hz
      clear hinv
      go_wp2
      go_ret
      exact ⟨rfl, rfl⟩
end Go.Proofs.Ytpbmolijoadonaa

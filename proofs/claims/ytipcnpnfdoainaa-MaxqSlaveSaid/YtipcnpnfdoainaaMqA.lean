/- Layer 24: the statements' outcome, the chapter's example. -/
import Derived.Test.YtipcnpnfdoainaaMqF
set_option linter.unusedVariables false
set_option linter.unusedSimpArgs false
namespace Go.Proofs.Ytipcnpnfdoainaa
open Go.RowKit

/-- Verdict and exception of a truthful table. -/
def mqo (n most : Int) (r : Bool) : Int × Int := if most < n then (2, 3) else if r then (1, 0) else (2, 2)
/-- An outcome with a verdict, a function and an exception. -/
abbrev ov (V F E : Int) : Value := .agg #[.int .i64 V, .int .i64 F, .int .i64 E, .slice none 0 0, .int .i64 0, .int .i64 0, .bool false, .int .i64 0, .slice none 0 0]

set_option maxHeartbeats 400000 in
theorem outcome_any (f a n c o most V E : Int) (r : Bool) (h : mqo n most r = (V, E)) (w : World) :
    Calls Try.prog 23 #[qv f a n c o, .int .i64 most, .bool r] w fun e w' => e = .returned (ov V f E) ∧ Below w.heap.size w w' := by
  by_cases h1 : most < n
  · rw [mqo, if_pos h1] at h
    simp only [Prod.mk.injEq] at h
    obtain ⟨rfl, rfl⟩ := h
    go_enter Try.func23, Try.ntmps23
    go_wp2
    exact bodyPost_ret (v := ov 2 f 3) (by simp [results, Try.results23, go_sem]) rfl ⟨rfl, ((Below.refl _ _).alloc (Nat.le_refl _) _).alloc (by simp) _⟩
  · rw [mqo, if_neg h1] at h
    have h2 : n ≤ most := by omega
    have h3 : decide (most < n) = false := by simpa using h2
    clear h1
    cases r
    · simp at h
      obtain ⟨rfl, rfl⟩ := h
      go_enter Try.func23, Try.ntmps23
      go_wp2
      exact bodyPost_ret (v := ov 2 f 2) (by simp [results, Try.results23, go_sem]) rfl ⟨rfl, ((Below.refl _ _).alloc (Nat.le_refl _) _).alloc (by simp) _⟩
    · simp at h
      obtain ⟨rfl, rfl⟩ := h
      go_enter Try.func23, Try.ntmps23
      go_wp2
      exact bodyPost_ret (v := ov 1 f 0) (by simp [results, Try.results23, go_sem]) rfl ⟨rfl, ((Below.refl _ _).alloc (Nat.le_refl _) _).alloc (by simp) _⟩

/-- The states of the example. -/
def slo (k : Nat) : Int := [0, 1, 63, 94, 94, 94, 98, 100, 100].getD k 0
def shi (k : Nat) : Int := [126, 126, 126, 126, 110, 102, 102, 102, 101].getD k 0
def sst (k : Nat) : Int := if k = 8 then 2 else 0
def swn (k : Nat) : Int := [1, 63, 94, 110, 102, 98, 100, 101].getD k 0
def sV (k : Nat) : Int := (mqo (swn k) 100 false).1
def sE (k : Nat) : Int := (mqo (swn k) 100 false).2
theorem s_all (k : Nat) (hk : k < 8) : mqn (slo k) (shi k) k = swn k ∧ mqo (swn k) 100 false = (sV k, sE k) ∧ mfeed (sV k) (sE k) (slo k) (shi k) k = (slo (k + 1), shi (k + 1), sst (k + 1)) ∧ 0 ≤ slo k ∧ slo k ≤ 3000 ∧ 0 ≤ shi k ∧ shi k ≤ 3000 ∧ sst k = 0 := by
  have : ∀ k : Fin 8, mqn (slo k) (shi k) (k : Nat) = swn k ∧ mqo (swn k) 100 false = (sV k, sE k) ∧ mfeed (sV k) (sE k) (slo k) (shi k) (k : Nat) = (slo (k + 1), shi (k + 1), sst (k + 1)) ∧ 0 ≤ slo k ∧ slo k ≤ 3000 ∧ 0 ≤ shi k ∧ shi k ≤ 3000 ∧ sst k = 0 := by decide +kernel
  exact this ⟨k, hk⟩
theorem swn_cell (k : Nat) (hk : k < 8) : (#[.int .i64 1, .int .i64 63, .int .i64 94, .int .i64 110, .int .i64 102, .int .i64 98, .int .i64 100, .int .i64 101] : Array Value)[k]? = some (.int .i64 (swn k)) := by
  obtain rfl | rfl | rfl | rfl | rfl | rfl | rfl | rfl : k = 0 ∨ k = 1 ∨ k = 2 ∨ k = 3 ∨ k = 4 ∨ k = 5 ∨ k = 6 ∨ k = 7 := by omega
  all_goals rfl

set_option maxRecDepth 100000 in
set_option maxHeartbeats 1000000 in
theorem awake_any (w : World) : Calls Try.prog 8 #[] w fun e w' => e = .returned (.bool true) ∧ Below w.heap.size w w' := by
  have HNew := Lib.hid (mqNew_any 3 w (by omega) (by omega))
  have el : mlim 3 + 1 = 126 := by decide
  rw [el] at HNew
  clear el
  go_enter Try.func8, Try.ntmps8
  go_wp2_with fail
  refine HNew.out.mono ?_
  rintro e w1 ⟨rfl, hB1, hb1⟩
  have hs1 : w.heap.size < w1.heap.size := hB1.2.2
  clear HNew
  go_wp2_with fail
  go_loopw [3] (fun i wr => ∃ k : Nat, k ≤ 8 ∧ i = .int .i64 k ∧ sBox wr w.heap.size 3 (slo k) (shi k) (sst k) k ∧ Box wr w1.heap.size #[.int .i64 1, .int .i64 63, .int .i64 94, .int .i64 110, .int .i64 102, .int .i64 98, .int .i64 100, .int .i64 101] ∧ Below w.heap.size w wr) (fun i _ => 8 - (intOf i).toNat)
  case atStart => exact ⟨0, by omega, rfl, hB1.alloc' _, Box.alloc_, hb1.alloc hb1.size _⟩
  case round =>
    obtain ⟨k, hk, rfl, hB, hW, hbw⟩ := hrel
    have HB := Lib.hid hB
    have HW := Lib.hid hW
    by_cases hlt : k < 8
    · obtain ⟨a1, a2, a3, a4, a5, a6, a7, a8⟩ := s_all k hlt
      rw [a8] at hB
      have HX := Lib.hid (mqNext_open w.heap.size 3 (slo k) (shi k) k (swn k) wr hB a4 a5 a6 a7 a1)
      have HO := Lib.hid (fun w => outcome_any 3 0 (swn k) 0 0 100 (sV k) (sE k) false a2 w)
      have HF := Lib.hid (fun (W : World) (hW : sBox W w.heap.size 3 (slo k) (shi k) 0 k) => mqFeed_any w.heap.size 3 (slo k) (shi k) k (slo (k + 1)) (shi (k + 1)) (sst (k + 1)) (sV k) 3 (sE k) 0 0 0 false none none 0 0 0 0 W hW a4 a5 a6 a7 (by omega) (by omega) a3)
      have HB := Lib.hid hB
      have hcell : wr.cell? ⟨w1.heap.size, k, none⟩ = some (.int .i64 (swn k)) := by rw [hW.1 k]; exact swn_cell k hlt
      have hlW := hW.2.2
      clear a1 a2 a3 a4 a5 a6 a7 a8 hB hW hB1
      go_wp2_with fail
      refine HX.out.mono ?_
      rintro e w2 ⟨rfl, hb2⟩
      have HB2 := Lib.hid (HB.out.below hb2)
      have HW2 := Lib.hid (HW.out.below hb2)
      have hcell2 : w2.cell? ⟨w1.heap.size, k, none⟩ = some (.int .i64 (swn k)) := (hb2.cell (p := ⟨w1.heap.size, k, none⟩) hlW).trans hcell
      have hs2 := hb2.size
      have hbw2 := hbw.trans (hb2.mono hbw.size)
      have g1 : w1.heap.size < w2.heap.size := by omega
      clear hb2 hcell hbw
      go_wp2_with fail
      go_region_with (first | (go_at_call 23; refine (HO.out _).mono ?_; rintro e w3 ⟨rfl, hb3⟩) | (go_at_call 16; refine (HF.out _ ((HB2.out.alloc' _).drew.below hb3)).mono ?_; rintro e w4 ⟨rfl, hf4⟩))
      all_goals
        obtain ⟨hB4, hg4⟩ := hf4
        have hs3 : w2.heap.size + 1 ≤ w3.heap.size := by have := hb3.size; simp at this; omega
        have hW4 := ((HW2.out.alloc' _).drew.below hb3).grown hg4 (by omega)
        have hbw4 := below_one (((below_drew (hbw2.alloc (by omega) _)).trans (hb3.mono (by simp; omega)))) hg4 (Nat.le_refl _) (by omega)
        clear hb3 hg4 HF HO HX
        go_wp2
        exact ⟨⟨k + 1, by omega, by go_num, hB4, hW4, hbw4⟩, by simp [intOf]; omega⟩
    · obtain rfl : k = 8 := by omega
      have hB8 : sBox wr w.heap.size 3 100 101 2 8 := hB
      have HR := Lib.hid (fun n => mqResult_any w.heap.size 3 100 101 2 8 (wr.drewN n) (hB8.drewN n) 100 rfl)
      have HQ := Lib.hid (fun n => mqQueries_any w.heap.size 3 100 101 2 8 (wr.drewN n) (hB8.drewN n))
      clear hB hB8 hW
      go_wp2_with fail
      refine (HR.out 0).mono ?_
      rintro e w2 ⟨rfl, m, rfl⟩
      go_wp2_with fail
      refine (HQ.out _).mono ?_
      rintro e w2 ⟨rfl, rfl⟩
      go_wp2
      go_ret
      exact ⟨rfl, below_drewN hbw _⟩
end Go.Proofs.Ytipcnpnfdoainaa

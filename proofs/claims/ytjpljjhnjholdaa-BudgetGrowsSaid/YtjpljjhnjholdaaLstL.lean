/- Layer 5: contracts of setting.List and of the reference's List. -/
import Derived.Test.YtjpljjhnjholdaaLst
import Derived.Deep.DeepCutAuto
set_option linter.unusedVariables false
set_option linter.unusedSimpArgs false
namespace Go.Proofs.Ytjpljjhnjholdaa
open Go.RowKit

set_option maxRecDepth 100000 in
set_option maxHeartbeats 2000000 in
theorem list_any (ss : List St) (A : Option Addr) (n c B : Nat) (r : Bool) (w : World) (hr : Rd w B 2 A n (stCells ss)) (hl : ss.length = n) (hn : n ≤ maxLen) (h : listB ss = r) :
    Calls Try.prog 35 #[.slice A n c] w fun e w' => e = .returned (.bool r) ∧ Below w.heap.size w w' := by
  unfold maxLen at hn
  have hr := hr.fits (by decide)
  have HR := Lib.hid hr
  have HL := Lib.hid hl
  have HH := Lib.hid h
  clear hr hl h
  go_enter Try.func35, Try.ntmps35
  go_wp2
  go_loopw [3, 4, 7] (fun x p i wr => ∃ k : Nat, k ≤ n ∧ i = .int .i64 k ∧ okS none ss = okS (prevS ss k) (ss.drop k) ∧ Below w.heap.size w wr) (fun _ _ i _ => n - (intOf i).toNat)
  case atStart => exact ⟨0, by omega, rfl, by simp [prevS], Below.refl _ _⟩
  case round =>
    obtain ⟨k, hk, rfl, hok, hbw⟩ := hrel
    by_cases hlt : k < n
    · obtain ⟨b, off, rfl, hbl, hk', x0, x1⟩ := st_cells (HR.out.below hbw (Nat.le_refl _)) HL.out k hlt
      have hst := okS_step ss k hk'
      obtain ⟨b0, hb0⟩ : ∃ b0, ss[k].1 = b0 := ⟨_, rfl⟩
      obtain ⟨p0, hp0⟩ : ∃ p0, ss[k].2 = p0 := ⟨_, rfl⟩
      obtain ⟨v0, hv0⟩ : ∃ v0, validB b0 p0 = v0 := ⟨_, rfl⟩
      have hsk : ss[k] = (b0, p0) := by rw [← hb0, ← hp0]
      rw [hsk] at hst
      rw [hb0] at x0
      rw [hp0] at x1
      simp only [hv0] at hst
      have HST := Lib.hid (hok.trans hst)
      have HV := Lib.hid (fun w => valid_any b0 p0 v0 hv0 w)
      clear hok hst hb0 hp0 hv0
      obtain ⟨g, hg⟩ : ∃ g, wr.heap.size = g := ⟨_, rfl⟩
      obtain ⟨W1, hW1⟩ : ∃ W1, wr.alloc (.cells #[.int .i64 b0, .int .i64 p0] 49) = W1 := ⟨_, rfl⟩
      have HB := Lib.hid (show Box W1 g #[.int .i64 b0, .int .i64 p0] from hW1 ▸ hg ▸ Box.alloc_)
      have hbw1 : Below w.heap.size w W1 := hW1 ▸ hbw.alloc hbw.size _
      have HRk := Lib.hid (HR.out.below hbw1 (Nat.le_refl _))
      go_upto_region 4 with fail
      try rw [hg]
      try rw [hW1]
      clear hW1 hg
      obtain ⟨gd, hgd⟩ : ∃ gd, (v0 && pOk (prevS ss k) (b0, p0)) = gd := ⟨_, rfl⟩
      rw [hgd] at HST
      go_cut [28] (fun v x => v = .bool (!gd) ∧ Below W1.heap.size W1 x)
      case first =>
        cases v0
        · obtain rfl : gd = false := by rw [← hgd]; rfl
          clear hgd x0 x1 HRk HST hsk
          have hS : (∀ i, W1.drew.cell? ⟨g, i, none⟩ = (#[.int .i64 b0, .int .i64 p0] : Array Value)[i]?) ∧ True ∧ True := ⟨HB.out.1, trivial, trivial⟩
          refine rgs_start (fun w' => (∀ i, w'.cell? ⟨g, i, none⟩ = (#[.int .i64 b0, .int .i64 p0] : Array Value)[i]?) ∧ True ∧ True) (by kernel_rfl) ?_
          refine rgs_t (v := ?_) (some 12) 0 (by kernel_rfl) rfl rfl (by assumption) (.inl ⟨by rfl, fun w' hw => ?_⟩) ?_
          rotate_left
          · obtain ⟨q1, q2, q3⟩ := hw; go_simp <;> with_reducible rfl
          try simp only [Act.put, List.setIfInBounds_toArray, List.set_cons_zero, List.set_cons_succ]
          refine rgs_c 1 (by kernel_rfl) rfl (by rfl) (fun K hK => ?_)
          go_simp
          refine (HV.out _).mono ?_
          rintro e w2 ⟨rfl, hb2⟩
          have hb2' : Below W1.heap.size W1 w2 := (below_drew (Below.refl W1.heap.size W1)).trans hb2
          have hS2 : (∀ i, w2.cell? ⟨g, i, none⟩ = (#[.int .i64 b0, .int .i64 p0] : Array Value)[i]?) ∧ True ∧ True := ⟨(HB.out.below hb2').1, trivial, trivial⟩
          refine hK _ _ hS2 ?_
          clear hK K
          try simp only [Act.put, List.setIfInBounds_toArray, List.set_cons_zero, List.set_cons_succ]
          refine rgs_t (v := ?_) (some 14) 2 (by kernel_rfl) rfl rfl (by assumption) (.inl ⟨by rfl, fun w' hw => ?_⟩) ?_
          rotate_left
          · obtain ⟨q1, q2, q3⟩ := hw; go_simp <;> with_reducible rfl
          try simp only [Act.put, List.setIfInBounds_toArray, List.set_cons_zero, List.set_cons_succ]
          refine rgs_t (v := ?_) (some 15) 3 (by kernel_rfl) rfl rfl (by assumption) (.inl ⟨by rfl, fun w' hw => ?_⟩) ?_
          rotate_left
          · obtain ⟨q1, q2, q3⟩ := hw; go_simp <;> with_reducible rfl
          try simp only [Act.put, List.setIfInBounds_toArray, List.set_cons_zero, List.set_cons_succ]
          refine rgs_t (some 16) 4 (by kernel_rfl) rfl rfl (by assumption) (.inr ⟨by rfl, rfl⟩) ?_
          try simp only [Act.put, List.setIfInBounds_toArray, List.set_cons_zero, List.set_cons_succ]
          refine rgs_t (some 17) 5 (by kernel_rfl) rfl rfl (by assumption) (.inr ⟨by rfl, rfl⟩) ?_
          try simp only [Act.put, List.setIfInBounds_toArray, List.set_cons_zero, List.set_cons_succ]
          refine rgs_t (some 18) 6 (by kernel_rfl) rfl rfl (by assumption) (.inr ⟨by rfl, rfl⟩) ?_
          try simp only [Act.put, List.setIfInBounds_toArray, List.set_cons_zero, List.set_cons_succ]
          refine rgs_t (some 19) 7 (by kernel_rfl) rfl rfl (by assumption) (.inr ⟨by rfl, rfl⟩) ?_
          try simp only [Act.put, List.setIfInBounds_toArray, List.set_cons_zero, List.set_cons_succ]
          refine rgs_t (some 20) 8 (by kernel_rfl) rfl rfl (by assumption) (.inr ⟨by rfl, rfl⟩) ?_
          try simp only [Act.put, List.setIfInBounds_toArray, List.set_cons_zero, List.set_cons_succ]
          refine rgs_t (some 21) 9 (by kernel_rfl) rfl rfl (by assumption) (.inr ⟨by rfl, rfl⟩) ?_
          try simp only [Act.put, List.setIfInBounds_toArray, List.set_cons_zero, List.set_cons_succ]
          refine rgs_t (some 22) 10 (by kernel_rfl) rfl rfl (by assumption) (.inr ⟨by rfl, rfl⟩) ?_
          try simp only [Act.put, List.setIfInBounds_toArray, List.set_cons_zero, List.set_cons_succ]
          refine rgs_t (some 23) 11 (by kernel_rfl) rfl rfl (by assumption) (.inr ⟨by rfl, rfl⟩) ?_
          try simp only [Act.put, List.setIfInBounds_toArray, List.set_cons_zero, List.set_cons_succ]
          refine rgs_t (some 24) 12 (by kernel_rfl) rfl rfl (by assumption) (.inr ⟨by rfl, rfl⟩) ?_
          try simp only [Act.put, List.setIfInBounds_toArray, List.set_cons_zero, List.set_cons_succ]
          refine rgs_t (some 25) 13 (by kernel_rfl) rfl rfl (by assumption) (.inr ⟨by rfl, rfl⟩) ?_
          try simp only [Act.put, List.setIfInBounds_toArray, List.set_cons_zero, List.set_cons_succ]
          refine rgs_t (some 26) 14 (by kernel_rfl) rfl rfl (by assumption) (.inr ⟨by rfl, rfl⟩) ?_
          try simp only [Act.put, List.setIfInBounds_toArray, List.set_cons_zero, List.set_cons_succ]
          refine rgs_t (some 27) 15 (by kernel_rfl) rfl rfl (by assumption) (.inr ⟨by rfl, rfl⟩) ?_
          try simp only [Act.put, List.setIfInBounds_toArray, List.set_cons_zero, List.set_cons_succ]
          refine rgs_t (v := ?_) (some 28) 16 (by kernel_rfl) rfl rfl (by assumption) (.inl ⟨by rfl, fun w' hw => ?_⟩) ?_
          rotate_left
          · obtain ⟨q1, q2, q3⟩ := hw; go_simp <;> with_reducible rfl
          try simp only [Act.put, List.setIfInBounds_toArray, List.set_cons_zero, List.set_cons_succ]
          refine rgs_d (by kernel_rfl) ?_
          go_wp2_with fail
          go_meet
          case rel => exact ⟨rfl, hb2'⟩
        · by_cases hk0 : k = 0
          · subst hk0
            obtain rfl : gd = true := by rw [← hgd]; rfl
            clear hgd x0 x1 HRk HST hsk
            have hS : (∀ i, W1.drew.cell? ⟨g, i, none⟩ = (#[.int .i64 b0, .int .i64 p0] : Array Value)[i]?) ∧ True ∧ True := ⟨HB.out.1, trivial, trivial⟩
            refine rgs_start (fun w' => (∀ i, w'.cell? ⟨g, i, none⟩ = (#[.int .i64 b0, .int .i64 p0] : Array Value)[i]?) ∧ True ∧ True) (by kernel_rfl) ?_
            refine rgs_t (v := ?_) (some 12) 0 (by kernel_rfl) rfl rfl (by assumption) (.inl ⟨by rfl, fun w' hw => ?_⟩) ?_
            rotate_left
            · obtain ⟨q1, q2, q3⟩ := hw; go_simp <;> with_reducible rfl
            try simp only [Act.put, List.setIfInBounds_toArray, List.set_cons_zero, List.set_cons_succ]
            refine rgs_c 1 (by kernel_rfl) rfl (by rfl) (fun K hK => ?_)
            go_simp
            refine (HV.out _).mono ?_
            rintro e w2 ⟨rfl, hb2⟩
            have hb2' : Below W1.heap.size W1 w2 := (below_drew (Below.refl W1.heap.size W1)).trans hb2
            have hS2 : (∀ i, w2.cell? ⟨g, i, none⟩ = (#[.int .i64 b0, .int .i64 p0] : Array Value)[i]?) ∧ True ∧ True := ⟨(HB.out.below hb2').1, trivial, trivial⟩
            refine hK _ _ hS2 ?_
            clear hK K
            try simp only [Act.put, List.setIfInBounds_toArray, List.set_cons_zero, List.set_cons_succ]
            refine rgs_t (v := ?_) (some 14) 2 (by kernel_rfl) rfl rfl (by assumption) (.inl ⟨by rfl, fun w' hw => ?_⟩) ?_
            rotate_left
            · obtain ⟨q1, q2, q3⟩ := hw; go_simp <;> with_reducible rfl
            try simp only [Act.put, List.setIfInBounds_toArray, List.set_cons_zero, List.set_cons_succ]
            refine rgs_t (v := ?_) (some 15) 3 (by kernel_rfl) rfl rfl (by assumption) (.inl ⟨by rfl, fun w' hw => ?_⟩) ?_
            rotate_left
            · obtain ⟨q1, q2, q3⟩ := hw; go_simp <;> with_reducible rfl
            try simp only [Act.put, List.setIfInBounds_toArray, List.set_cons_zero, List.set_cons_succ]
            refine rgs_t (v := ?_) (some 16) 4 (by kernel_rfl) rfl rfl (by assumption) (.inl ⟨by rfl, fun w' hw => ?_⟩) ?_
            rotate_left
            · obtain ⟨q1, q2, q3⟩ := hw; go_simp <;> with_reducible rfl
            try simp only [Act.put, List.setIfInBounds_toArray, List.set_cons_zero, List.set_cons_succ]
            refine rgs_t (v := ?_) (some 17) 5 (by kernel_rfl) rfl rfl (by assumption) (.inl ⟨by rfl, fun w' hw => ?_⟩) ?_
            rotate_left
            · obtain ⟨q1, q2, q3⟩ := hw; go_simp <;> with_reducible rfl
            try simp only [Act.put, List.setIfInBounds_toArray, List.set_cons_zero, List.set_cons_succ]
            refine rgs_t (v := ?_) (some 18) 6 (by kernel_rfl) rfl rfl (by assumption) (.inl ⟨by rfl, fun w' hw => ?_⟩) ?_
            rotate_left
            · obtain ⟨q1, q2, q3⟩ := hw; go_simp <;> with_reducible rfl
            try simp only [Act.put, List.setIfInBounds_toArray, List.set_cons_zero, List.set_cons_succ]
            refine rgs_t (some 19) 7 (by kernel_rfl) rfl rfl (by assumption) (.inr ⟨by rfl, rfl⟩) ?_
            try simp only [Act.put, List.setIfInBounds_toArray, List.set_cons_zero, List.set_cons_succ]
            refine rgs_t (some 20) 8 (by kernel_rfl) rfl rfl (by assumption) (.inr ⟨by rfl, rfl⟩) ?_
            try simp only [Act.put, List.setIfInBounds_toArray, List.set_cons_zero, List.set_cons_succ]
            refine rgs_t (some 21) 9 (by kernel_rfl) rfl rfl (by assumption) (.inr ⟨by rfl, rfl⟩) ?_
            try simp only [Act.put, List.setIfInBounds_toArray, List.set_cons_zero, List.set_cons_succ]
            refine rgs_t (some 22) 10 (by kernel_rfl) rfl rfl (by assumption) (.inr ⟨by rfl, rfl⟩) ?_
            try simp only [Act.put, List.setIfInBounds_toArray, List.set_cons_zero, List.set_cons_succ]
            refine rgs_t (some 23) 11 (by kernel_rfl) rfl rfl (by assumption) (.inr ⟨by rfl, rfl⟩) ?_
            try simp only [Act.put, List.setIfInBounds_toArray, List.set_cons_zero, List.set_cons_succ]
            refine rgs_t (some 24) 12 (by kernel_rfl) rfl rfl (by assumption) (.inr ⟨by rfl, rfl⟩) ?_
            try simp only [Act.put, List.setIfInBounds_toArray, List.set_cons_zero, List.set_cons_succ]
            refine rgs_t (some 25) 13 (by kernel_rfl) rfl rfl (by assumption) (.inr ⟨by rfl, rfl⟩) ?_
            try simp only [Act.put, List.setIfInBounds_toArray, List.set_cons_zero, List.set_cons_succ]
            refine rgs_t (some 26) 14 (by kernel_rfl) rfl rfl (by assumption) (.inr ⟨by rfl, rfl⟩) ?_
            try simp only [Act.put, List.setIfInBounds_toArray, List.set_cons_zero, List.set_cons_succ]
            refine rgs_t (v := ?_) (some 27) 15 (by kernel_rfl) rfl rfl (by assumption) (.inl ⟨by rfl, fun w' hw => ?_⟩) ?_
            rotate_left
            · obtain ⟨q1, q2, q3⟩ := hw; go_simp <;> with_reducible rfl
            try simp only [Act.put, List.setIfInBounds_toArray, List.set_cons_zero, List.set_cons_succ]
            refine rgs_t (v := ?_) (some 28) 16 (by kernel_rfl) rfl rfl (by assumption) (.inl ⟨by rfl, fun w' hw => ?_⟩) ?_
            rotate_left
            · obtain ⟨q1, q2, q3⟩ := hw; go_simp <;> with_reducible rfl
            try simp only [Act.put, List.setIfInBounds_toArray, List.set_cons_zero, List.set_cons_succ]
            refine rgs_d (by kernel_rfl) ?_
            go_wp2_with fail
            go_meet
            case rel => exact ⟨rfl, hb2'⟩
          · obtain ⟨b', o', hA, _, hk1', y0, y1⟩ := st_cells HRk.out HL.out (k - 1) (by omega)
            injection hA with hA
            injection hA with hA hB' _
            subst hA hB'
            have hbs : b < W1.heap.size := Nat.lt_of_lt_of_le hbl hbw1.size
            obtain ⟨q, hq⟩ : ∃ q, ss[k - 1] = q := ⟨_, rfl⟩
            rw [hq] at y0 y1
            have hp : prevS ss k = some q := by rw [prevS, if_neg hk0, List.getElem?_eq_getElem hk1', hq]
            rw [hp] at hgd
            have hgd2 : stLess q (b0, p0) = gd := by simpa [pOk] using hgd
            obtain ⟨c, hc⟩ : ∃ c, cmpS q (b0, p0) = c := ⟨_, rfl⟩
            have hcl := cmpS_less q (b0, p0)
            rw [hc, hgd2] at hcl
            have hk00 : decide (0 < k) = true := by simp; omega
            have hk01 : decide ((0 : Int) < (k : Int)) = true := by simp; omega
            have f3 : IntKind.i64.wrap ((k : Int) - 1) = ((k - 1 : Nat) : Int) := by rw [IntWalk.i64_in _ ⟨by omega, by omega⟩]; omega
            have hkm : k - 1 < n := by omega
            have HCL := Lib.hid hcl
            clear hgd hgd2 hp hq x0 x1 HRk HST hsk hcl
            have hS : (∀ i, W1.drew.cell? ⟨g, i, none⟩ = (#[.int .i64 b0, .int .i64 p0] : Array Value)[i]?) ∧ (W1.drew.cell? ⟨b, off + (k - 1) * 2, none⟩ = some (.int .i64 q.1) ∧ W1.drew.cell? ⟨b, off + (k - 1) * 2 + 1, none⟩ = some (.int .i64 q.2)) ∧ True := ⟨HB.out.1, ⟨y0, y1⟩, trivial⟩
            refine rgs_start (fun w' => (∀ i, w'.cell? ⟨g, i, none⟩ = (#[.int .i64 b0, .int .i64 p0] : Array Value)[i]?) ∧ (w'.cell? ⟨b, off + (k - 1) * 2, none⟩ = some (.int .i64 q.1) ∧ w'.cell? ⟨b, off + (k - 1) * 2 + 1, none⟩ = some (.int .i64 q.2)) ∧ True) (by kernel_rfl) ?_
            refine rgs_t (v := ?_) (some 12) 0 (by kernel_rfl) rfl rfl (by assumption) (.inl ⟨by rfl, fun w' hw => ?_⟩) ?_
            rotate_left
            · obtain ⟨q1, q2, q3⟩ := hw; go_simp <;> with_reducible rfl
            try simp only [Act.put, List.setIfInBounds_toArray, List.set_cons_zero, List.set_cons_succ]
            refine rgs_c 1 (by kernel_rfl) rfl (by rfl) (fun K hK => ?_)
            go_simp
            refine (HV.out _).mono ?_
            rintro e w2 ⟨rfl, hb2⟩
            have hb2' : Below W1.heap.size W1 w2 := (below_drew (Below.refl W1.heap.size W1)).trans hb2
            have hS2 : (∀ i, w2.cell? ⟨g, i, none⟩ = (#[.int .i64 b0, .int .i64 p0] : Array Value)[i]?) ∧ (w2.cell? ⟨b, off + (k - 1) * 2, none⟩ = some (.int .i64 q.1) ∧ w2.cell? ⟨b, off + (k - 1) * 2 + 1, none⟩ = some (.int .i64 q.2)) ∧ True := ⟨(HB.out.below hb2').1, ⟨(hb2'.cell hbs).trans y0, (hb2'.cell hbs).trans y1⟩, trivial⟩
            refine hK _ _ hS2 ?_
            clear hK K
            try simp only [Act.put, List.setIfInBounds_toArray, List.set_cons_zero, List.set_cons_succ]
            refine rgs_t (v := ?_) (some 14) 2 (by kernel_rfl) rfl rfl (by assumption) (.inl ⟨by rfl, fun w' hw => ?_⟩) ?_
            rotate_left
            · obtain ⟨q1, q2, q3⟩ := hw; go_simp <;> with_reducible rfl
            try simp only [Act.put, List.setIfInBounds_toArray, List.set_cons_zero, List.set_cons_succ]
            refine rgs_t (v := ?_) (some 15) 3 (by kernel_rfl) rfl rfl (by assumption) (.inl ⟨by rfl, fun w' hw => ?_⟩) ?_
            rotate_left
            · obtain ⟨q1, q2, q3⟩ := hw; go_simp <;> with_reducible rfl
            try simp only [Act.put, List.setIfInBounds_toArray, List.set_cons_zero, List.set_cons_succ]
            refine rgs_t (v := ?_) (some 16) 4 (by kernel_rfl) rfl rfl (by assumption) (.inl ⟨by rfl, fun w' hw => ?_⟩) ?_
            rotate_left
            · obtain ⟨q1, q2, q3⟩ := hw; go_simp <;> with_reducible rfl
            try simp only [Act.put, List.setIfInBounds_toArray, List.set_cons_zero, List.set_cons_succ]
            refine rgs_t (v := ?_) (some 17) 5 (by kernel_rfl) rfl rfl (by assumption) (.inl ⟨by rfl, fun w' hw => ?_⟩) ?_
            rotate_left
            · obtain ⟨q1, q2, q3⟩ := hw; go_simp <;> with_reducible rfl
            try simp only [Act.put, List.setIfInBounds_toArray, List.set_cons_zero, List.set_cons_succ]
            refine rgs_t (v := ?_) (some 18) 6 (by kernel_rfl) rfl rfl (by assumption) (.inl ⟨by rfl, fun w' hw => ?_⟩) ?_
            rotate_left
            · obtain ⟨q1, q2, q3⟩ := hw; go_simp <;> with_reducible rfl
            try simp only [Act.put, List.setIfInBounds_toArray, List.set_cons_zero, List.set_cons_succ]
            refine rgs_t (v := ?_) (some 19) 7 (by kernel_rfl) rfl rfl (by assumption) (.inl ⟨by rfl, fun w' hw => ?_⟩) ?_
            rotate_left
            · obtain ⟨q1, q2, q3⟩ := hw; go_simp <;> with_reducible rfl
            try simp only [Act.put, List.setIfInBounds_toArray, List.set_cons_zero, List.set_cons_succ]
            refine rgs_t (v := ?_) (some 20) 8 (by kernel_rfl) rfl rfl (by assumption) (.inl ⟨by rfl, fun w' hw => ?_⟩) ?_
            rotate_left
            · obtain ⟨q1, q2, q3⟩ := hw; go_simp <;> with_reducible rfl
            try simp only [Act.put, List.setIfInBounds_toArray, List.set_cons_zero, List.set_cons_succ]
            refine rgs_t (v := ?_) (some 21) 9 (by kernel_rfl) rfl rfl (by assumption) (.inl ⟨by rfl, fun w' hw => ?_⟩) ?_
            rotate_left
            · obtain ⟨q1, q2, q3⟩ := hw; go_simp <;> with_reducible rfl
            try simp only [Act.put, List.setIfInBounds_toArray, List.set_cons_zero, List.set_cons_succ]
            refine rgs_t (v := ?_) (some 22) 10 (by kernel_rfl) rfl rfl (by assumption) (.inl ⟨by rfl, fun w' hw => ?_⟩) ?_
            rotate_left
            · obtain ⟨q1, q2, q3⟩ := hw; go_simp <;> with_reducible rfl
            try simp only [Act.put, List.setIfInBounds_toArray, List.set_cons_zero, List.set_cons_succ]
            refine rgs_t (v := ?_) (some 23) 11 (by kernel_rfl) rfl rfl (by assumption) (.inl ⟨by rfl, fun w' hw => ?_⟩) ?_
            rotate_left
            · obtain ⟨q1, q2, q3⟩ := hw; go_simp <;> with_reducible rfl
            try simp only [Act.put, List.setIfInBounds_toArray, List.set_cons_zero, List.set_cons_succ]
            refine rgs_t (v := ?_) (some 24) 12 (by kernel_rfl) rfl rfl (by assumption) (.inl ⟨by rfl, fun w' hw => ?_⟩) ?_
            rotate_left
            · obtain ⟨q1, q2, q3⟩ := hw; go_simp <;> with_reducible rfl
            try simp only [Act.put, List.setIfInBounds_toArray, List.set_cons_zero, List.set_cons_succ]
            refine rgs_c 13 (by kernel_rfl) rfl (by rfl) (fun K hK => ?_)
            go_simp
            refine (compare_any q (b0, p0) c hc _).mono ?_
            rintro e w3 ⟨rfl, hb3⟩
            have hb3' := ext_trans hb2' hb3
            have hS3 : (∀ i, w3.cell? ⟨g, i, none⟩ = (#[.int .i64 b0, .int .i64 p0] : Array Value)[i]?) ∧ (w3.cell? ⟨b, off + (k - 1) * 2, none⟩ = some (.int .i64 q.1) ∧ w3.cell? ⟨b, off + (k - 1) * 2 + 1, none⟩ = some (.int .i64 q.2)) ∧ True := ⟨(HB.out.below hb3').1, ⟨(hb3'.cell hbs).trans y0, (hb3'.cell hbs).trans y1⟩, trivial⟩
            refine hK _ _ hS3 ?_
            clear hK K
            try simp only [Act.put, List.setIfInBounds_toArray, List.set_cons_zero, List.set_cons_succ]
            refine rgs_t (v := ?_) (some 26) 14 (by kernel_rfl) rfl rfl (by assumption) (.inl ⟨by rfl, fun w' hw => ?_⟩) ?_
            rotate_left
            · obtain ⟨q1, q2, q3⟩ := hw; go_simp <;> with_reducible rfl
            try simp only [Act.put, List.setIfInBounds_toArray, List.set_cons_zero, List.set_cons_succ]
            refine rgs_t (v := ?_) (some 27) 15 (by kernel_rfl) rfl rfl (by assumption) (.inl ⟨by rfl, fun w' hw => ?_⟩) ?_
            rotate_left
            · obtain ⟨q1, q2, q3⟩ := hw; go_simp <;> with_reducible rfl
            try simp only [Act.put, List.setIfInBounds_toArray, List.set_cons_zero, List.set_cons_succ]
            refine rgs_t (v := ?_) (some 28) 16 (by kernel_rfl) rfl rfl (by assumption) (.inl ⟨by rfl, fun w' hw => ?_⟩) ?_
            rotate_left
            · obtain ⟨q1, q2, q3⟩ := hw; go_simp <;> with_reducible rfl
            try simp only [Act.put, List.setIfInBounds_toArray, List.set_cons_zero, List.set_cons_succ]
            refine rgs_d (by kernel_rfl) ?_
            go_wp2_with fail
            go_meet
            case rel => exact ⟨by rw [HCL.out], hb3'⟩
      case rest =>
        obtain ⟨rfl, hbc⟩ := hcut
        have hbw2 := hbw1.trans (hbc.mono hbw1.size)
        cases gd
        · have hr : r = false := by rw [← HH.out, listB, HST.out]; rfl
          subst hr
          clear HRk x0 x1 HB
          go_wp2
          go_ret
          exact ⟨rfl, hbw2⟩
        · have HST2 := Lib.hid (show okS none ss = okS (prevS ss (k + 1)) (ss.drop (k + 1)) by rw [HST.out]; rfl)
          clear HRk x0 x1 HB hgd
          go_wp2_with fail
          go_roundw
          case rel => exact ⟨k + 1, by omega, by go_num, HST2.out, hbw2⟩
          case measure => simp [intOf]; omega
    · obtain rfl : k = n := by omega
      have hr2 : decide (1 ≤ k ∧ k ≤ 6) = r := by
        rw [← HH.out, listB, hok, List.drop_of_length_le (by rw [HL.out]; omega), HL.out]; rfl
      by_cases h1 : 1 ≤ k
      · by_cases h2 : k ≤ 6
        · obtain rfl : r = true := by rw [← hr2]; simp [h1, h2]
          clear hr2
          go_wp2
          go_ret
          exact ⟨by simp; omega, hbw⟩
        · obtain rfl : r = false := by rw [← hr2]; simp [h1, h2]
          clear hr2
          go_wp2
          go_ret
          exact ⟨by simp; omega, hbw⟩
      · obtain rfl : r = false := by rw [← hr2]; simp [h1]
        clear hr2
        go_wp2
        go_ret
        exact ⟨rfl, hbw⟩

set_option maxRecDepth 100000 in
set_option maxHeartbeats 2000000 in
theorem rlist_any (ss : List St) (A : Option Addr) (n c B : Nat) (r : Bool) (w : World) (hr : Rd w B 2 A n (stCells ss)) (hl : ss.length = n) (hn : n ≤ maxLen) (h : listB ss = r) :
    Calls Try.prog 26 #[.slice A n c] w fun e w' => e = .returned (.bool r) ∧ Below w.heap.size w w' := by
  unfold maxLen at hn
  have hr := hr.fits (by decide)
  have HR := Lib.hid hr
  have HL := Lib.hid hl
  have HH := Lib.hid h
  clear hr hl h
  go_enter Try.func26, Try.ntmps26
  go_wp2
  go_loopw [3] (fun i wr => ∃ k : Nat, k ≤ n ∧ i = .int .i64 k ∧ k ≤ 7 ∧ okS none ss = okS (prevS ss k) (ss.drop k) ∧ Below w.heap.size w wr) (fun i _ => n - (intOf i).toNat)
  case atStart => exact ⟨0, by omega, rfl, by omega, by simp [prevS], Below.refl _ _⟩
  case round =>
    obtain ⟨k, hk, rfl, hk7, hok, hbw⟩ := hrel
    by_cases hlt : k < n ∧ k ≤ 6
    · obtain ⟨hlt, h6⟩ := hlt
      obtain ⟨b, off, rfl, hbl, hk', x0, x1⟩ := st_cells (HR.out.below hbw (Nat.le_refl _)) HL.out k hlt
      have hst := okS_step ss k hk'
      obtain ⟨b0, hb0⟩ : ∃ b0, ss[k].1 = b0 := ⟨_, rfl⟩
      obtain ⟨p0, hp0⟩ : ∃ p0, ss[k].2 = p0 := ⟨_, rfl⟩
      obtain ⟨v0, hv0⟩ : ∃ v0, validB b0 p0 = v0 := ⟨_, rfl⟩
      have hsk : ss[k] = (b0, p0) := by rw [← hb0, ← hp0]
      rw [hsk] at hst
      rw [hb0] at x0
      rw [hp0] at x1
      simp only [hv0] at hst
      have HST := Lib.hid (hok.trans hst)
      have HV := Lib.hid (fun w => refValid_any b0 p0 v0 hv0 w)
      have HRk := Lib.hid (HR.out.below hbw (Nat.le_refl _))
      have hbs : b < wr.heap.size := Nat.lt_of_lt_of_le hbl hbw.size
      clear hok hst hb0 hp0 hv0
      go_upto_region 4 with fail
      obtain ⟨gd, hgd⟩ : ∃ gd, (v0 && pOk (prevS ss k) (b0, p0)) = gd := ⟨_, rfl⟩
      rw [hgd] at HST
      go_cut [36] (fun v x => v = .bool (!gd) ∧ Below wr.heap.size wr x)
      case first =>
        cases v0
        · obtain rfl : gd = false := by rw [← hgd]; rfl
          clear hgd HRk HST hsk
          have hS : (wr.drew.cell? ⟨b, off + k * 2, none⟩ = some (.int .i64 b0) ∧ wr.drew.cell? ⟨b, off + k * 2 + 1, none⟩ = some (.int .i64 p0)) ∧ True ∧ True := ⟨⟨x0, x1⟩, trivial, trivial⟩
          refine rgs_start (fun w' => (w'.cell? ⟨b, off + k * 2, none⟩ = some (.int .i64 b0) ∧ w'.cell? ⟨b, off + k * 2 + 1, none⟩ = some (.int .i64 p0)) ∧ True ∧ True) (by kernel_rfl) ?_
          refine rgs_t (v := ?_) (some 14) 0 (by kernel_rfl) rfl rfl (by assumption) (.inl ⟨by rfl, fun w' hw => ?_⟩) ?_
          rotate_left
          · obtain ⟨q1, q2, q3⟩ := hw; go_simp <;> with_reducible rfl
          try simp only [Act.put, List.setIfInBounds_toArray, List.set_cons_zero, List.set_cons_succ]
          refine rgs_t (v := ?_) (some 15) 1 (by kernel_rfl) rfl rfl (by assumption) (.inl ⟨by rfl, fun w' hw => ?_⟩) ?_
          rotate_left
          · obtain ⟨q1, q2, q3⟩ := hw; go_simp <;> with_reducible rfl
          try simp only [Act.put, List.setIfInBounds_toArray, List.set_cons_zero, List.set_cons_succ]
          refine rgs_t (v := ?_) (some 16) 2 (by kernel_rfl) rfl rfl (by assumption) (.inl ⟨by rfl, fun w' hw => ?_⟩) ?_
          rotate_left
          · obtain ⟨q1, q2, q3⟩ := hw; go_simp <;> with_reducible rfl
          try simp only [Act.put, List.setIfInBounds_toArray, List.set_cons_zero, List.set_cons_succ]
          refine rgs_t (v := ?_) (some 17) 3 (by kernel_rfl) rfl rfl (by assumption) (.inl ⟨by rfl, fun w' hw => ?_⟩) ?_
          rotate_left
          · obtain ⟨q1, q2, q3⟩ := hw; go_simp <;> with_reducible rfl
          try simp only [Act.put, List.setIfInBounds_toArray, List.set_cons_zero, List.set_cons_succ]
          refine rgs_c 4 (by kernel_rfl) rfl (by rfl) (fun K hK => ?_)
          go_simp
          refine (HV.out _).mono ?_
          rintro e w2 ⟨rfl, hb2⟩
          have hb2' : Below wr.heap.size wr w2 := (below_drew (Below.refl wr.heap.size wr)).trans hb2
          have hS2 : (w2.cell? ⟨b, off + k * 2, none⟩ = some (.int .i64 b0) ∧ w2.cell? ⟨b, off + k * 2 + 1, none⟩ = some (.int .i64 p0)) ∧ True ∧ True := ⟨⟨(hb2'.cell hbs).trans x0, (hb2'.cell hbs).trans x1⟩, trivial, trivial⟩
          refine hK _ _ hS2 ?_
          clear hK K
          try simp only [Act.put, List.setIfInBounds_toArray, List.set_cons_zero, List.set_cons_succ]
          refine rgs_t (v := ?_) (some 19) 5 (by kernel_rfl) rfl rfl (by assumption) (.inl ⟨by rfl, fun w' hw => ?_⟩) ?_
          rotate_left
          · obtain ⟨q1, q2, q3⟩ := hw; go_simp <;> with_reducible rfl
          try simp only [Act.put, List.setIfInBounds_toArray, List.set_cons_zero, List.set_cons_succ]
          refine rgs_t (v := ?_) (some 20) 6 (by kernel_rfl) rfl rfl (by assumption) (.inl ⟨by rfl, fun w' hw => ?_⟩) ?_
          rotate_left
          · obtain ⟨q1, q2, q3⟩ := hw; go_simp <;> with_reducible rfl
          try simp only [Act.put, List.setIfInBounds_toArray, List.set_cons_zero, List.set_cons_succ]
          refine rgs_t (some 21) 7 (by kernel_rfl) rfl rfl (by assumption) (.inr ⟨by rfl, rfl⟩) ?_
          try simp only [Act.put, List.setIfInBounds_toArray, List.set_cons_zero, List.set_cons_succ]
          refine rgs_t (some 22) 8 (by kernel_rfl) rfl rfl (by assumption) (.inr ⟨by rfl, rfl⟩) ?_
          try simp only [Act.put, List.setIfInBounds_toArray, List.set_cons_zero, List.set_cons_succ]
          refine rgs_t (some 23) 9 (by kernel_rfl) rfl rfl (by assumption) (.inr ⟨by rfl, rfl⟩) ?_
          try simp only [Act.put, List.setIfInBounds_toArray, List.set_cons_zero, List.set_cons_succ]
          refine rgs_t (some 24) 10 (by kernel_rfl) rfl rfl (by assumption) (.inr ⟨by rfl, rfl⟩) ?_
          try simp only [Act.put, List.setIfInBounds_toArray, List.set_cons_zero, List.set_cons_succ]
          refine rgs_t (some 25) 11 (by kernel_rfl) rfl rfl (by assumption) (.inr ⟨by rfl, rfl⟩) ?_
          try simp only [Act.put, List.setIfInBounds_toArray, List.set_cons_zero, List.set_cons_succ]
          refine rgs_t (some 26) 12 (by kernel_rfl) rfl rfl (by assumption) (.inr ⟨by rfl, rfl⟩) ?_
          try simp only [Act.put, List.setIfInBounds_toArray, List.set_cons_zero, List.set_cons_succ]
          refine rgs_t (some 27) 13 (by kernel_rfl) rfl rfl (by assumption) (.inr ⟨by rfl, rfl⟩) ?_
          try simp only [Act.put, List.setIfInBounds_toArray, List.set_cons_zero, List.set_cons_succ]
          refine rgs_t (some 28) 14 (by kernel_rfl) rfl rfl (by assumption) (.inr ⟨by rfl, rfl⟩) ?_
          try simp only [Act.put, List.setIfInBounds_toArray, List.set_cons_zero, List.set_cons_succ]
          refine rgs_t (some 29) 15 (by kernel_rfl) rfl rfl (by assumption) (.inr ⟨by rfl, rfl⟩) ?_
          try simp only [Act.put, List.setIfInBounds_toArray, List.set_cons_zero, List.set_cons_succ]
          refine rgs_t (some 30) 16 (by kernel_rfl) rfl rfl (by assumption) (.inr ⟨by rfl, rfl⟩) ?_
          try simp only [Act.put, List.setIfInBounds_toArray, List.set_cons_zero, List.set_cons_succ]
          refine rgs_t (some 31) 17 (by kernel_rfl) rfl rfl (by assumption) (.inr ⟨by rfl, rfl⟩) ?_
          try simp only [Act.put, List.setIfInBounds_toArray, List.set_cons_zero, List.set_cons_succ]
          refine rgs_t (some 32) 18 (by kernel_rfl) rfl rfl (by assumption) (.inr ⟨by rfl, rfl⟩) ?_
          try simp only [Act.put, List.setIfInBounds_toArray, List.set_cons_zero, List.set_cons_succ]
          refine rgs_t (some 33) 19 (by kernel_rfl) rfl rfl (by assumption) (.inr ⟨by rfl, rfl⟩) ?_
          try simp only [Act.put, List.setIfInBounds_toArray, List.set_cons_zero, List.set_cons_succ]
          refine rgs_t (some 34) 20 (by kernel_rfl) rfl rfl (by assumption) (.inr ⟨by rfl, rfl⟩) ?_
          try simp only [Act.put, List.setIfInBounds_toArray, List.set_cons_zero, List.set_cons_succ]
          refine rgs_t (some 35) 21 (by kernel_rfl) rfl rfl (by assumption) (.inr ⟨by rfl, rfl⟩) ?_
          try simp only [Act.put, List.setIfInBounds_toArray, List.set_cons_zero, List.set_cons_succ]
          refine rgs_t (v := ?_) (some 36) 22 (by kernel_rfl) rfl rfl (by assumption) (.inl ⟨by rfl, fun w' hw => ?_⟩) ?_
          rotate_left
          · obtain ⟨q1, q2, q3⟩ := hw; go_simp <;> with_reducible rfl
          try simp only [Act.put, List.setIfInBounds_toArray, List.set_cons_zero, List.set_cons_succ]
          refine rgs_d (by kernel_rfl) ?_
          go_wp2_with fail
          go_meet
          case rel => exact ⟨rfl, hb2'⟩
        · by_cases hk0 : k = 0
          · subst hk0
            obtain rfl : gd = true := by rw [← hgd]; rfl
            rw [show off + 0 * 2 = off by omega] at x0 x1
            clear hgd HRk HST hsk
            have hS : (wr.drew.cell? ⟨b, off, none⟩ = some (.int .i64 b0) ∧ wr.drew.cell? ⟨b, off + 1, none⟩ = some (.int .i64 p0)) ∧ True ∧ True := ⟨⟨x0, x1⟩, trivial, trivial⟩
            refine rgs_start (fun w' => (w'.cell? ⟨b, off, none⟩ = some (.int .i64 b0) ∧ w'.cell? ⟨b, off + 1, none⟩ = some (.int .i64 p0)) ∧ True ∧ True) (by kernel_rfl) ?_
            refine rgs_t (v := ?_) (some 14) 0 (by kernel_rfl) rfl rfl (by assumption) (.inl ⟨by rfl, fun w' hw => ?_⟩) ?_
            rotate_left
            · obtain ⟨q1, q2, q3⟩ := hw; go_simp <;> with_reducible rfl
            try simp only [Act.put, List.setIfInBounds_toArray, List.set_cons_zero, List.set_cons_succ]
            refine rgs_t (v := ?_) (some 15) 1 (by kernel_rfl) rfl rfl (by assumption) (.inl ⟨by rfl, fun w' hw => ?_⟩) ?_
            rotate_left
            · obtain ⟨q1, q2, q3⟩ := hw; go_simp <;> with_reducible rfl
            try simp only [Act.put, List.setIfInBounds_toArray, List.set_cons_zero, List.set_cons_succ]
            refine rgs_t (v := ?_) (some 16) 2 (by kernel_rfl) rfl rfl (by assumption) (.inl ⟨by rfl, fun w' hw => ?_⟩) ?_
            rotate_left
            · obtain ⟨q1, q2, q3⟩ := hw; go_simp <;> with_reducible rfl
            try simp only [Act.put, List.setIfInBounds_toArray, List.set_cons_zero, List.set_cons_succ]
            refine rgs_t (v := ?_) (some 17) 3 (by kernel_rfl) rfl rfl (by assumption) (.inl ⟨by rfl, fun w' hw => ?_⟩) ?_
            rotate_left
            · obtain ⟨q1, q2, q3⟩ := hw; go_simp <;> with_reducible rfl
            try simp only [Act.put, List.setIfInBounds_toArray, List.set_cons_zero, List.set_cons_succ]
            refine rgs_c 4 (by kernel_rfl) rfl (by rfl) (fun K hK => ?_)
            go_simp
            refine (HV.out _).mono ?_
            rintro e w2 ⟨rfl, hb2⟩
            have hb2' : Below wr.heap.size wr w2 := (below_drew (Below.refl wr.heap.size wr)).trans hb2
            have hS2 : (w2.cell? ⟨b, off, none⟩ = some (.int .i64 b0) ∧ w2.cell? ⟨b, off + 1, none⟩ = some (.int .i64 p0)) ∧ True ∧ True := ⟨⟨(hb2'.cell hbs).trans x0, (hb2'.cell hbs).trans x1⟩, trivial, trivial⟩
            refine hK _ _ hS2 ?_
            clear hK K
            try simp only [Act.put, List.setIfInBounds_toArray, List.set_cons_zero, List.set_cons_succ]
            refine rgs_t (v := ?_) (some 19) 5 (by kernel_rfl) rfl rfl (by assumption) (.inl ⟨by rfl, fun w' hw => ?_⟩) ?_
            rotate_left
            · obtain ⟨q1, q2, q3⟩ := hw; go_simp <;> with_reducible rfl
            try simp only [Act.put, List.setIfInBounds_toArray, List.set_cons_zero, List.set_cons_succ]
            refine rgs_t (v := ?_) (some 20) 6 (by kernel_rfl) rfl rfl (by assumption) (.inl ⟨by rfl, fun w' hw => ?_⟩) ?_
            rotate_left
            · obtain ⟨q1, q2, q3⟩ := hw; go_simp <;> with_reducible rfl
            try simp only [Act.put, List.setIfInBounds_toArray, List.set_cons_zero, List.set_cons_succ]
            refine rgs_t (v := ?_) (some 21) 7 (by kernel_rfl) rfl rfl (by assumption) (.inl ⟨by rfl, fun w' hw => ?_⟩) ?_
            rotate_left
            · obtain ⟨q1, q2, q3⟩ := hw; go_simp <;> with_reducible rfl
            try simp only [Act.put, List.setIfInBounds_toArray, List.set_cons_zero, List.set_cons_succ]
            refine rgs_t (v := ?_) (some 22) 8 (by kernel_rfl) rfl rfl (by assumption) (.inl ⟨by rfl, fun w' hw => ?_⟩) ?_
            rotate_left
            · obtain ⟨q1, q2, q3⟩ := hw; go_simp <;> with_reducible rfl
            try simp only [Act.put, List.setIfInBounds_toArray, List.set_cons_zero, List.set_cons_succ]
            refine rgs_t (v := ?_) (some 23) 9 (by kernel_rfl) rfl rfl (by assumption) (.inl ⟨by rfl, fun w' hw => ?_⟩) ?_
            rotate_left
            · obtain ⟨q1, q2, q3⟩ := hw; go_simp <;> with_reducible rfl
            try simp only [Act.put, List.setIfInBounds_toArray, List.set_cons_zero, List.set_cons_succ]
            refine rgs_t (some 24) 10 (by kernel_rfl) rfl rfl (by assumption) (.inr ⟨by rfl, rfl⟩) ?_
            try simp only [Act.put, List.setIfInBounds_toArray, List.set_cons_zero, List.set_cons_succ]
            refine rgs_t (some 25) 11 (by kernel_rfl) rfl rfl (by assumption) (.inr ⟨by rfl, rfl⟩) ?_
            try simp only [Act.put, List.setIfInBounds_toArray, List.set_cons_zero, List.set_cons_succ]
            refine rgs_t (some 26) 12 (by kernel_rfl) rfl rfl (by assumption) (.inr ⟨by rfl, rfl⟩) ?_
            try simp only [Act.put, List.setIfInBounds_toArray, List.set_cons_zero, List.set_cons_succ]
            refine rgs_t (some 27) 13 (by kernel_rfl) rfl rfl (by assumption) (.inr ⟨by rfl, rfl⟩) ?_
            try simp only [Act.put, List.setIfInBounds_toArray, List.set_cons_zero, List.set_cons_succ]
            refine rgs_t (some 28) 14 (by kernel_rfl) rfl rfl (by assumption) (.inr ⟨by rfl, rfl⟩) ?_
            try simp only [Act.put, List.setIfInBounds_toArray, List.set_cons_zero, List.set_cons_succ]
            refine rgs_t (some 29) 15 (by kernel_rfl) rfl rfl (by assumption) (.inr ⟨by rfl, rfl⟩) ?_
            try simp only [Act.put, List.setIfInBounds_toArray, List.set_cons_zero, List.set_cons_succ]
            refine rgs_t (some 30) 16 (by kernel_rfl) rfl rfl (by assumption) (.inr ⟨by rfl, rfl⟩) ?_
            try simp only [Act.put, List.setIfInBounds_toArray, List.set_cons_zero, List.set_cons_succ]
            refine rgs_t (some 31) 17 (by kernel_rfl) rfl rfl (by assumption) (.inr ⟨by rfl, rfl⟩) ?_
            try simp only [Act.put, List.setIfInBounds_toArray, List.set_cons_zero, List.set_cons_succ]
            refine rgs_t (some 32) 18 (by kernel_rfl) rfl rfl (by assumption) (.inr ⟨by rfl, rfl⟩) ?_
            try simp only [Act.put, List.setIfInBounds_toArray, List.set_cons_zero, List.set_cons_succ]
            refine rgs_t (some 33) 19 (by kernel_rfl) rfl rfl (by assumption) (.inr ⟨by rfl, rfl⟩) ?_
            try simp only [Act.put, List.setIfInBounds_toArray, List.set_cons_zero, List.set_cons_succ]
            refine rgs_t (some 34) 20 (by kernel_rfl) rfl rfl (by assumption) (.inr ⟨by rfl, rfl⟩) ?_
            try simp only [Act.put, List.setIfInBounds_toArray, List.set_cons_zero, List.set_cons_succ]
            refine rgs_t (v := ?_) (some 35) 21 (by kernel_rfl) rfl rfl (by assumption) (.inl ⟨by rfl, fun w' hw => ?_⟩) ?_
            rotate_left
            · obtain ⟨q1, q2, q3⟩ := hw; go_simp <;> with_reducible rfl
            try simp only [Act.put, List.setIfInBounds_toArray, List.set_cons_zero, List.set_cons_succ]
            refine rgs_t (v := ?_) (some 36) 22 (by kernel_rfl) rfl rfl (by assumption) (.inl ⟨by rfl, fun w' hw => ?_⟩) ?_
            rotate_left
            · obtain ⟨q1, q2, q3⟩ := hw; go_simp <;> with_reducible rfl
            try simp only [Act.put, List.setIfInBounds_toArray, List.set_cons_zero, List.set_cons_succ]
            refine rgs_d (by kernel_rfl) ?_
            go_wp2_with fail
            go_meet
            case rel => exact ⟨rfl, hb2'⟩
          · obtain ⟨b', o', hA, _, hk1', y0, y1⟩ := st_cells HRk.out HL.out (k - 1) (by omega)
            injection hA with hA
            injection hA with hA hB' _
            subst hA hB'
            obtain ⟨q, hq⟩ : ∃ q, ss[k - 1] = q := ⟨_, rfl⟩
            rw [hq] at y0 y1
            have hp : prevS ss k = some q := by rw [prevS, if_neg hk0, List.getElem?_eq_getElem hk1', hq]
            rw [hp] at hgd
            have hgd2 : stLess q (b0, p0) = gd := by simpa [pOk] using hgd
            have hk00 : decide (0 < k) = true := by simp; omega
            have hk01 : decide ((0 : Int) < (k : Int)) = true := by simp; omega
            have f3 : IntKind.i64.wrap ((k : Int) - 1) = ((k - 1 : Nat) : Int) := by rw [IntWalk.i64_in _ ⟨by omega, by omega⟩]; omega
            have hkm : k - 1 < n := by omega
            have HG2 := Lib.hid hgd2
            clear hgd hgd2 hp hq HRk HST hsk
            have hS : (wr.drew.cell? ⟨b, off + k * 2, none⟩ = some (.int .i64 b0) ∧ wr.drew.cell? ⟨b, off + k * 2 + 1, none⟩ = some (.int .i64 p0)) ∧ (wr.drew.cell? ⟨b, off + (k - 1) * 2, none⟩ = some (.int .i64 q.1) ∧ wr.drew.cell? ⟨b, off + (k - 1) * 2 + 1, none⟩ = some (.int .i64 q.2)) ∧ True := ⟨⟨x0, x1⟩, ⟨y0, y1⟩, trivial⟩
            refine rgs_start (fun w' => (w'.cell? ⟨b, off + k * 2, none⟩ = some (.int .i64 b0) ∧ w'.cell? ⟨b, off + k * 2 + 1, none⟩ = some (.int .i64 p0)) ∧ (w'.cell? ⟨b, off + (k - 1) * 2, none⟩ = some (.int .i64 q.1) ∧ w'.cell? ⟨b, off + (k - 1) * 2 + 1, none⟩ = some (.int .i64 q.2)) ∧ True) (by kernel_rfl) ?_
            refine rgs_t (v := ?_) (some 14) 0 (by kernel_rfl) rfl rfl (by assumption) (.inl ⟨by rfl, fun w' hw => ?_⟩) ?_
            rotate_left
            · obtain ⟨q1, q2, q3⟩ := hw; go_simp <;> with_reducible rfl
            try simp only [Act.put, List.setIfInBounds_toArray, List.set_cons_zero, List.set_cons_succ]
            refine rgs_t (v := ?_) (some 15) 1 (by kernel_rfl) rfl rfl (by assumption) (.inl ⟨by rfl, fun w' hw => ?_⟩) ?_
            rotate_left
            · obtain ⟨q1, q2, q3⟩ := hw; go_simp <;> with_reducible rfl
            try simp only [Act.put, List.setIfInBounds_toArray, List.set_cons_zero, List.set_cons_succ]
            refine rgs_t (v := ?_) (some 16) 2 (by kernel_rfl) rfl rfl (by assumption) (.inl ⟨by rfl, fun w' hw => ?_⟩) ?_
            rotate_left
            · obtain ⟨q1, q2, q3⟩ := hw; go_simp <;> with_reducible rfl
            try simp only [Act.put, List.setIfInBounds_toArray, List.set_cons_zero, List.set_cons_succ]
            refine rgs_t (v := ?_) (some 17) 3 (by kernel_rfl) rfl rfl (by assumption) (.inl ⟨by rfl, fun w' hw => ?_⟩) ?_
            rotate_left
            · obtain ⟨q1, q2, q3⟩ := hw; go_simp <;> with_reducible rfl
            try simp only [Act.put, List.setIfInBounds_toArray, List.set_cons_zero, List.set_cons_succ]
            refine rgs_c 4 (by kernel_rfl) rfl (by rfl) (fun K hK => ?_)
            go_simp
            refine (HV.out _).mono ?_
            rintro e w2 ⟨rfl, hb2⟩
            have hb2' : Below wr.heap.size wr w2 := (below_drew (Below.refl wr.heap.size wr)).trans hb2
            have hS2 : (w2.cell? ⟨b, off + k * 2, none⟩ = some (.int .i64 b0) ∧ w2.cell? ⟨b, off + k * 2 + 1, none⟩ = some (.int .i64 p0)) ∧ (w2.cell? ⟨b, off + (k - 1) * 2, none⟩ = some (.int .i64 q.1) ∧ w2.cell? ⟨b, off + (k - 1) * 2 + 1, none⟩ = some (.int .i64 q.2)) ∧ True := ⟨⟨(hb2'.cell hbs).trans x0, (hb2'.cell hbs).trans x1⟩, ⟨(hb2'.cell hbs).trans y0, (hb2'.cell hbs).trans y1⟩, trivial⟩
            refine hK _ _ hS2 ?_
            clear hK K
            try simp only [Act.put, List.setIfInBounds_toArray, List.set_cons_zero, List.set_cons_succ]
            refine rgs_t (v := ?_) (some 19) 5 (by kernel_rfl) rfl rfl (by assumption) (.inl ⟨by rfl, fun w' hw => ?_⟩) ?_
            rotate_left
            · obtain ⟨q1, q2, q3⟩ := hw; go_simp <;> with_reducible rfl
            try simp only [Act.put, List.setIfInBounds_toArray, List.set_cons_zero, List.set_cons_succ]
            refine rgs_t (v := ?_) (some 20) 6 (by kernel_rfl) rfl rfl (by assumption) (.inl ⟨by rfl, fun w' hw => ?_⟩) ?_
            rotate_left
            · obtain ⟨q1, q2, q3⟩ := hw; go_simp <;> with_reducible rfl
            try simp only [Act.put, List.setIfInBounds_toArray, List.set_cons_zero, List.set_cons_succ]
            refine rgs_t (v := ?_) (some 21) 7 (by kernel_rfl) rfl rfl (by assumption) (.inl ⟨by rfl, fun w' hw => ?_⟩) ?_
            rotate_left
            · obtain ⟨q1, q2, q3⟩ := hw; go_simp <;> with_reducible rfl
            try simp only [Act.put, List.setIfInBounds_toArray, List.set_cons_zero, List.set_cons_succ]
            refine rgs_t (v := ?_) (some 22) 8 (by kernel_rfl) rfl rfl (by assumption) (.inl ⟨by rfl, fun w' hw => ?_⟩) ?_
            rotate_left
            · obtain ⟨q1, q2, q3⟩ := hw; go_simp <;> with_reducible rfl
            try simp only [Act.put, List.setIfInBounds_toArray, List.set_cons_zero, List.set_cons_succ]
            refine rgs_t (v := ?_) (some 23) 9 (by kernel_rfl) rfl rfl (by assumption) (.inl ⟨by rfl, fun w' hw => ?_⟩) ?_
            rotate_left
            · obtain ⟨q1, q2, q3⟩ := hw; go_simp <;> with_reducible rfl
            try simp only [Act.put, List.setIfInBounds_toArray, List.set_cons_zero, List.set_cons_succ]
            refine rgs_t (v := ?_) (some 24) 10 (by kernel_rfl) rfl rfl (by assumption) (.inl ⟨by rfl, fun w' hw => ?_⟩) ?_
            rotate_left
            · obtain ⟨q1, q2, q3⟩ := hw; go_simp <;> with_reducible rfl
            try simp only [Act.put, List.setIfInBounds_toArray, List.set_cons_zero, List.set_cons_succ]
            refine rgs_t (v := ?_) (some 25) 11 (by kernel_rfl) rfl rfl (by assumption) (.inl ⟨by rfl, fun w' hw => ?_⟩) ?_
            rotate_left
            · obtain ⟨q1, q2, q3⟩ := hw; go_simp <;> with_reducible rfl
            try simp only [Act.put, List.setIfInBounds_toArray, List.set_cons_zero, List.set_cons_succ]
            refine rgs_t (v := ?_) (some 26) 12 (by kernel_rfl) rfl rfl (by assumption) (.inl ⟨by rfl, fun w' hw => ?_⟩) ?_
            rotate_left
            · obtain ⟨q1, q2, q3⟩ := hw; go_simp <;> with_reducible rfl
            try simp only [Act.put, List.setIfInBounds_toArray, List.set_cons_zero, List.set_cons_succ]
            refine rgs_t (v := ?_) (some 27) 13 (by kernel_rfl) rfl rfl (by assumption) (.inl ⟨by rfl, fun w' hw => ?_⟩) ?_
            rotate_left
            · obtain ⟨q1, q2, q3⟩ := hw; go_simp <;> with_reducible rfl
            try simp only [Act.put, List.setIfInBounds_toArray, List.set_cons_zero, List.set_cons_succ]
            refine rgs_t (v := ?_) (some 28) 14 (by kernel_rfl) rfl rfl (by assumption) (.inl ⟨by rfl, fun w' hw => ?_⟩) ?_
            rotate_left
            · obtain ⟨q1, q2, q3⟩ := hw; go_simp <;> with_reducible rfl
            try simp only [Act.put, List.setIfInBounds_toArray, List.set_cons_zero, List.set_cons_succ]
            refine rgs_t (v := ?_) (some 29) 15 (by kernel_rfl) rfl rfl (by assumption) (.inl ⟨by rfl, fun w' hw => ?_⟩) ?_
            rotate_left
            · obtain ⟨q1, q2, q3⟩ := hw; go_simp <;> with_reducible rfl
            try simp only [Act.put, List.setIfInBounds_toArray, List.set_cons_zero, List.set_cons_succ]
            refine rgs_t (v := ?_) (some 30) 16 (by kernel_rfl) rfl rfl (by assumption) (.inl ⟨by rfl, fun w' hw => ?_⟩) ?_
            rotate_left
            · obtain ⟨q1, q2, q3⟩ := hw; go_simp <;> with_reducible rfl
            try simp only [Act.put, List.setIfInBounds_toArray, List.set_cons_zero, List.set_cons_succ]
            refine rgs_t (v := ?_) (some 31) 17 (by kernel_rfl) rfl rfl (by assumption) (.inl ⟨by rfl, fun w' hw => ?_⟩) ?_
            rotate_left
            · obtain ⟨q1, q2, q3⟩ := hw; go_simp <;> with_reducible rfl
            try simp only [Act.put, List.setIfInBounds_toArray, List.set_cons_zero, List.set_cons_succ]
            refine rgs_t (v := ?_) (some 32) 18 (by kernel_rfl) rfl rfl (by assumption) (.inl ⟨by rfl, fun w' hw => ?_⟩) ?_
            rotate_left
            · obtain ⟨q1, q2, q3⟩ := hw; go_simp <;> with_reducible rfl
            try simp only [Act.put, List.setIfInBounds_toArray, List.set_cons_zero, List.set_cons_succ]
            refine rgs_c 19 (by kernel_rfl) rfl (by rfl) (fun K hK => ?_)
            go_simp
            refine (less_any q (b0, p0) gd HG2.out _).mono ?_
            rintro e w3 ⟨rfl, hb3⟩
            have hb3' := ext_trans hb2' hb3
            have hS3 : (w3.cell? ⟨b, off + k * 2, none⟩ = some (.int .i64 b0) ∧ w3.cell? ⟨b, off + k * 2 + 1, none⟩ = some (.int .i64 p0)) ∧ (w3.cell? ⟨b, off + (k - 1) * 2, none⟩ = some (.int .i64 q.1) ∧ w3.cell? ⟨b, off + (k - 1) * 2 + 1, none⟩ = some (.int .i64 q.2)) ∧ True := ⟨⟨(hb3'.cell hbs).trans x0, (hb3'.cell hbs).trans x1⟩, ⟨(hb3'.cell hbs).trans y0, (hb3'.cell hbs).trans y1⟩, trivial⟩
            refine hK _ _ hS3 ?_
            clear hK K
            try simp only [Act.put, List.setIfInBounds_toArray, List.set_cons_zero, List.set_cons_succ]
            refine rgs_t (v := ?_) (some 34) 20 (by kernel_rfl) rfl rfl (by assumption) (.inl ⟨by rfl, fun w' hw => ?_⟩) ?_
            rotate_left
            · obtain ⟨q1, q2, q3⟩ := hw; go_simp <;> with_reducible rfl
            try simp only [Act.put, List.setIfInBounds_toArray, List.set_cons_zero, List.set_cons_succ]
            refine rgs_t (v := ?_) (some 35) 21 (by kernel_rfl) rfl rfl (by assumption) (.inl ⟨by rfl, fun w' hw => ?_⟩) ?_
            rotate_left
            · obtain ⟨q1, q2, q3⟩ := hw; go_simp <;> with_reducible rfl
            try simp only [Act.put, List.setIfInBounds_toArray, List.set_cons_zero, List.set_cons_succ]
            refine rgs_t (v := ?_) (some 36) 22 (by kernel_rfl) rfl rfl (by assumption) (.inl ⟨by rfl, fun w' hw => ?_⟩) ?_
            rotate_left
            · obtain ⟨q1, q2, q3⟩ := hw; go_simp <;> with_reducible rfl
            try simp only [Act.put, List.setIfInBounds_toArray, List.set_cons_zero, List.set_cons_succ]
            refine rgs_d (by kernel_rfl) ?_
            go_wp2_with fail
            go_meet
            case rel => exact ⟨by simp, hb3'⟩
      case rest =>
        obtain ⟨rfl, hbc⟩ := hcut
        have hbw2 := hbw.trans (hbc.mono hbw.size)
        cases gd
        · have hr : r = false := by rw [← HH.out, listB, HST.out]; rfl
          subst hr
          clear HRk x0 x1
          go_wp2
          go_ret
          exact ⟨rfl, hbw2⟩
        · have HST2 := Lib.hid (show okS none ss = okS (prevS ss (k + 1)) (ss.drop (k + 1)) by rw [HST.out]; rfl)
          clear HRk x0 x1 hgd
          go_wp2_with fail
          go_roundw
          case rel => exact ⟨k + 1, by omega, by go_num, by omega, HST2.out, hbw2⟩
          case measure => simp [intOf]; omega
    · by_cases h1 : 1 ≤ n ∧ n ≤ 6
      · obtain rfl : k = n := by omega
        have hr2 : (okS none ss && decide (1 ≤ k ∧ k ≤ 6)) = r := by rw [← HH.out, listB, HL.out]
        rw [hok, List.drop_of_length_le (by rw [HL.out]; omega)] at hr2
        obtain rfl : r = true := by rw [← hr2]; simp [okS, h1]
        obtain ⟨h1, h2⟩ := h1
        clear hr2 hok hlt
        go_wp2
        go_ret
        exact ⟨by simp; omega, hbw⟩
      · obtain rfl : r = false := by rw [← HH.out, listB, HL.out]; simp [h1]
        rcases (show (n = 0 ∧ k = 0) ∨ (6 < n ∧ k = n) ∨ (6 < n ∧ k = 7 ∧ k < n) by omega) with ⟨rfl, rfl⟩ | ⟨hn6, rfl⟩ | ⟨hn6, rfl, hkn⟩
        all_goals
          clear hok hlt h1
          go_wp2
          go_ret
          first | exact ⟨rfl, hbw⟩ | exact ⟨by simp; omega, hbw⟩
end Go.Proofs.Ytjpljjhnjholdaa

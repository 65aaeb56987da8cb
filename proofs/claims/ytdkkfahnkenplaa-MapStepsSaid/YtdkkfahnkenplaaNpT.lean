/- Layer 25: contracts of SameSpans (of equal lists), Truth. -/
import Derived.Test.YtdkkfahnkenplaaNpS
import Derived.Deep.DeepCutAuto
set_option linter.unusedVariables false
set_option linter.unusedSimpArgs false
namespace Go.Proofs.Ytdkkfahnkenplaa
open Go.RowKit
variable {F : Nat → Prop}

set_option maxHeartbeats 1000000 in
theorem same_any (rs : List (Rn Int)) (A A2 : Option Addr) (n c c2 B : Nat) (w : World) (hr : Rd w B 2 A n (rnCells rs)) (hr2 : Rd w B 2 A2 n (rnCells rs)) (hn : n ≤ 100000) :
    Calls Try.prog 15 #[.slice A n c, .slice A2 n c2] w fun e w' => e = .returned (.bool true) ∧ Below w.heap.size w w' := by
  have HR := Lib.hid (hr.fits (by decide))
  have HR2 := Lib.hid (hr2.fits (by decide))
  clear hr hr2
  go_enter Try.func15, Try.ntmps15
  go_wp2
  go_loopw [5] (fun i wr => ∃ k : Nat, k ≤ n ∧ i = .int .i64 k ∧ ∃ z, wr = w.drewN z) (fun i _ => n - (intOf i).toNat)
  case atStart => exact ⟨0, by omega, rfl, 0, rfl⟩
  case round =>
    obtain ⟨k, hk, rfl, z, rfl⟩ := hrel
    by_cases hlt : k < n
    · obtain ⟨b1, o1, rfl, _, hk1, x0, x1⟩ := rn_cells HR.out k hlt
      obtain ⟨b2, o2, rfl, _, hk2, y0, y1⟩ := rn_cells HR2.out k hlt
      obtain ⟨r1, hr1⟩ : ∃ r1 : Int, (rs[k].1 : Int) = r1 := ⟨_, rfl⟩
      obtain ⟨r2, hr2⟩ : ∃ r2, rs[k].2 = r2 := ⟨_, rfl⟩
      rw [hr1] at x0 y0
      rw [hr2] at x1 y1
      clear hr1 hr2
      have hS : ((w.drewN z).drew.cell? ⟨b1, o1 + k * 2, none⟩ = some (.int .i64 r1) ∧ (w.drewN z).drew.cell? ⟨b1, o1 + k * 2 + 1, none⟩ = some (.int .i64 r2)) ∧ ((w.drewN z).drew.cell? ⟨b2, o2 + k * 2, none⟩ = some (.int .i64 r1) ∧ (w.drewN z).drew.cell? ⟨b2, o2 + k * 2 + 1, none⟩ = some (.int .i64 r2)) ∧ True := ⟨⟨x0, x1⟩, ⟨y0, y1⟩, trivial⟩
      clear x0 x1 y0 y1
      go_wp2_with fail
      refine rgs_start (fun w' => (w'.cell? ⟨b1, o1 + k * 2, none⟩ = some (.int .i64 r1) ∧ w'.cell? ⟨b1, o1 + k * 2 + 1, none⟩ = some (.int .i64 r2)) ∧ (w'.cell? ⟨b2, o2 + k * 2, none⟩ = some (.int .i64 r1) ∧ w'.cell? ⟨b2, o2 + k * 2 + 1, none⟩ = some (.int .i64 r2)) ∧ True) (by kernel_rfl) ?_
      refine rgs_t (v := ?_) (some 17) 0 (by kernel_rfl) rfl rfl (by assumption) (.inl ⟨by rfl, fun w' hw => ?_⟩) ?_
      rotate_left
      · obtain ⟨q1, q2, q3⟩ := hw; go_simp <;> with_reducible rfl
      try simp only [Act.put, List.setIfInBounds_toArray, List.set_cons_zero, List.set_cons_succ]
      refine rgs_t (v := ?_) (some 18) 1 (by kernel_rfl) rfl rfl (by assumption) (.inl ⟨by rfl, fun w' hw => ?_⟩) ?_
      rotate_left
      · obtain ⟨q1, q2, q3⟩ := hw; go_simp <;> with_reducible rfl
      try simp only [Act.put, List.setIfInBounds_toArray, List.set_cons_zero, List.set_cons_succ]
      refine rgs_t (v := ?_) (some 19) 2 (by kernel_rfl) rfl rfl (by assumption) (.inl ⟨by rfl, fun w' hw => ?_⟩) ?_
      rotate_left
      · obtain ⟨q1, q2, q3⟩ := hw; go_simp <;> with_reducible rfl
      try simp only [Act.put, List.setIfInBounds_toArray, List.set_cons_zero, List.set_cons_succ]
      refine rgs_t (v := ?_) (some 20) 3 (by kernel_rfl) rfl rfl (by assumption) (.inl ⟨by rfl, fun w' hw => ?_⟩) ?_
      rotate_left
      · obtain ⟨q1, q2, q3⟩ := hw; go_simp <;> with_reducible rfl
      try simp only [Act.put, List.setIfInBounds_toArray, List.set_cons_zero, List.set_cons_succ]
      refine rgs_t (v := ?_) (some 21) 4 (by kernel_rfl) rfl rfl (by assumption) (.inl ⟨by rfl, fun w' hw => ?_⟩) ?_
      rotate_left
      · obtain ⟨q1, q2, q3⟩ := hw; go_simp <;> with_reducible rfl
      try simp only [Act.put, List.setIfInBounds_toArray, List.set_cons_zero, List.set_cons_succ]
      refine rgs_t (v := ?_) (some 22) 5 (by kernel_rfl) rfl rfl (by assumption) (.inl ⟨by rfl, fun w' hw => ?_⟩) ?_
      rotate_left
      · obtain ⟨q1, q2, q3⟩ := hw; go_simp <;> with_reducible rfl
      try simp only [Act.put, List.setIfInBounds_toArray, List.set_cons_zero, List.set_cons_succ]
      refine rgs_t (v := ?_) (some 23) 6 (by kernel_rfl) rfl rfl (by assumption) (.inl ⟨by rfl, fun w' hw => ?_⟩) ?_
      rotate_left
      · obtain ⟨q1, q2, q3⟩ := hw; go_simp <;> with_reducible rfl
      try simp only [Act.put, List.setIfInBounds_toArray, List.set_cons_zero, List.set_cons_succ]
      refine rgs_t (v := ?_) (some 24) 7 (by kernel_rfl) rfl rfl (by assumption) (.inl ⟨by rfl, fun w' hw => ?_⟩) ?_
      rotate_left
      · obtain ⟨q1, q2, q3⟩ := hw; go_simp <;> with_reducible rfl
      try simp only [Act.put, List.setIfInBounds_toArray, List.set_cons_zero, List.set_cons_succ]
      refine rgs_t (v := ?_) (some 25) 8 (by kernel_rfl) rfl rfl (by assumption) (.inl ⟨by rfl, fun w' hw => ?_⟩) ?_
      rotate_left
      · obtain ⟨q1, q2, q3⟩ := hw; go_simp <;> with_reducible rfl
      try simp only [Act.put, List.setIfInBounds_toArray, List.set_cons_zero, List.set_cons_succ]
      refine rgs_d (by kernel_rfl) ?_
      go_wp2
      exact ⟨⟨k + 1, by omega, by go_num, z + 1, rfl⟩, by simp [intOf]; omega⟩
    · obtain rfl : k = n := by omega
      go_wp2
      go_ret
      exact ⟨rfl, below_drewN (Below.refl _ _) z⟩

def truthO (tb : Int) (yes : Bool) : Ocv := if yes = true then ⟨1, tb, 0, none, 0, 0, 0, 0, false, 0, none, 0, 0⟩ else ⟨2, tb, 2, none, 0, 0, 0, 0, false, 0, none, 0, 0⟩
theorem truth_yes (tb : Int) (yes : Bool) : oYes (truthO tb yes) = yes ∧ oNo (truthO tb yes) = !yes := by cases yes <;> exact ⟨rfl, rfl⟩
def allT (xs : List Bool) (l n : Nat) : Bool := ((xs.drop l).take n).all id
theorem allT_stop (xs : List Bool) (l n i : Nat) (hi : i < n) (hl : l + i < xs.length) (h : xs[l + i] = false) : allT xs l n = false := by
  rw [allT, List.all_eq_false]
  refine ⟨false, ?_, by simp⟩
  rw [← h]
  exact List.mem_iff_getElem.2 ⟨i, by simp; omega, by simp⟩
theorem allT_all (xs : List Bool) (l n : Nat) (h : ∀ i, i < n → xs[l + i]? = some true) : allT xs l n = true := by
  rw [allT, List.all_eq_true]
  intro x hx
  obtain ⟨i, hi, rfl⟩ := List.getElem_of_mem hx
  have hi2 : i < n := by simp at hi; omega
  have := h i hi2
  simp only [List.getElem_take, List.getElem_drop]
  have hl : l + i < xs.length := (List.getElem?_eq_some_iff.1 this).1
  rw [List.getElem?_eq_getElem hl] at this
  exact Option.some.inj this

set_option maxRecDepth 100000 in
set_option maxHeartbeats 2000000 in
theorem truth_any (tb first : Int) (l n : Nat) (xs : List Bool) (A : Option Addr) (N c B : Nat) (w : World) (hr : Rd w B 1 A N (xs.map Value.bool)) (hln : l + n ≤ N) (hN : N ≤ 100000) (hf : 0 ≤ first ∧ first ≤ 65536) (yes : Bool) (hy : allT xs l n = yes) :
    Calls Try.prog 22 #[reqV tb (first + l) n, .int .i64 first, .slice A N c] w fun e w' => e = .returned (ocV (truthO tb yes)) ∧ Below w.heap.size w w' := by
  have hr := hr.fits (by decide)
  have hxl : xs.length = N := by have := hr.1; simpa using this
  have HR := Lib.hid hr
  have HXL := Lib.hid hxl
  have HY := Lib.hid hy
  obtain ⟨hf1, hf2⟩ := hf
  clear hr hxl hy
  unfold reqV
  go_enter Try.func22, Try.ntmps22
  go_wp2_with fail
  have HB1 := Lib.hid ((Box.alloc_ (w := w) (cs := #[.int .i64 tb, .int .i64 (first + l), .int .i64 n, .int .i64 0, .int .i64 0]) (e := 31)).alloc' (.cells #[.int .i64 0, .int .i64 0, .int .i64 0, .slice none 0 0, .int .i64 0, .int .i64 0, .bool false, .int .i64 0, .slice none 0 0] 49))
  have HB2 := Lib.hid (show Box ((w.alloc (.cells #[.int .i64 tb, .int .i64 (first + l), .int .i64 n, .int .i64 0, .int .i64 0] 31)).alloc (.cells #[.int .i64 0, .int .i64 0, .int .i64 0, .slice none 0 0, .int .i64 0, .int .i64 0, .bool false, .int .i64 0, .slice none 0 0] 49)) (w.heap.size + 1) #[.int .i64 0, .int .i64 0, .int .i64 0, .slice none 0 0, .int .i64 0, .int .i64 0, .bool false, .int .i64 0, .slice none 0 0] by have := Box.alloc_ (w := w.alloc (.cells #[.int .i64 tb, .int .i64 (first + l), .int .i64 n, .int .i64 0, .int .i64 0] 31)) (cs := #[.int .i64 0, .int .i64 0, .int .i64 0, .slice none 0 0, .int .i64 0, .int .i64 0, .bool false, .int .i64 0, .slice none 0 0]) (e := 49); simpa using this)
  have hbw : Below w.heap.size w ((w.alloc (.cells #[.int .i64 tb, .int .i64 (first + l), .int .i64 n, .int .i64 0, .int .i64 0] 31)).alloc (.cells #[.int .i64 0, .int .i64 0, .int .i64 0, .slice none 0 0, .int .i64 0, .int .i64 0, .bool false, .int .i64 0, .slice none 0 0] 49)) := ((Below.refl _ _).alloc (Nat.le_refl _) _).alloc (by simp) _
  obtain ⟨W1, hW1⟩ : ∃ W1, (w.alloc (.cells #[.int .i64 tb, .int .i64 (first + l), .int .i64 n, .int .i64 0, .int .i64 0] 31)).alloc (.cells #[.int .i64 0, .int .i64 0, .int .i64 0, .slice none 0 0, .int .i64 0, .int .i64 0, .bool false, .int .i64 0, .slice none 0 0] 49) = W1 := ⟨_, rfl⟩
  rw [hW1] at HB1 HB2 hbw ⊢
  clear hW1
  go_loopw [7, 8] (fun i _ wr => ∃ k : Nat, k ≤ n ∧ i = .int .i64 k ∧ wr = W1 ∧ ∀ j, j < k → xs[l + j]? = some true) (fun i _ _ => n - (intOf i).toNat)
  case atStart => exact ⟨0, by omega, rfl, rfl, fun j hj => by omega⟩
  case round =>
    obtain ⟨k, hk, rfl, rfl, hall⟩ := hrel
    have HALL := Lib.hid hall
    obtain ⟨q1, z1, l1⟩ := HB1.out
    obtain ⟨q2, z2, l2⟩ := HB2.out
    clear hall
    by_cases hlt : k < n
    · obtain ⟨b, off, hA, hb, hc⟩ := (HR.out.below hbw (Nat.le_refl _)).2 (by omega)
      subst hA
      have hlk : l + k < xs.length := by rw [HXL.out]; omega
      obtain ⟨x, hx⟩ : ∃ x, xs[l + k] = x := ⟨_, rfl⟩
      have c0 := hc (l + k) (.bool x) (by simp [List.getElem?_eq_getElem hlk, hx])
      obtain ⟨i, hi⟩ : ∃ i, l + k = i := ⟨_, rfl⟩
      have hiN : i < N := by omega
      rw [hi] at c0
      clear hc
      go_upto_region 4 with fail
      go_cut [8] (fun v y => v = .int .i64 i ∧ y = wr)
      case first =>
        go_wp2_with fail
        go_meet
        case rel => exact ⟨by congr 1; omega, rfl⟩
      case rest =>
        obtain ⟨rfl, rfl⟩ := hcut
        cases x
        · have hys : yes = false := by rw [← HY.out]; exact allT_stop xs l n k hlt hlk hx
          subst hys
          have hBf := (((((((((HB2.out.set (k := 0) (v := .int .i64 2) (cs' := #[.int .i64 2, .int .i64 0, .int .i64 0, .slice none 0 0, .int .i64 0, .int .i64 0, .bool false, .int .i64 0, .slice none 0 0]) (by simp) rfl).set (k := 1) (v := .int .i64 tb) (cs' := #[.int .i64 2, .int .i64 tb, .int .i64 0, .slice none 0 0, .int .i64 0, .int .i64 0, .bool false, .int .i64 0, .slice none 0 0]) (by simp) rfl).set (k := 2) (v := .int .i64 2) (cs' := #[.int .i64 2, .int .i64 tb, .int .i64 2, .slice none 0 0, .int .i64 0, .int .i64 0, .bool false, .int .i64 0, .slice none 0 0]) (by simp) rfl).set (k := 3) (v := .slice none 0 0) (cs' := #[.int .i64 2, .int .i64 tb, .int .i64 2, .slice none 0 0, .int .i64 0, .int .i64 0, .bool false, .int .i64 0, .slice none 0 0]) (by simp) rfl).set (k := 4) (v := .int .i64 0) (cs' := #[.int .i64 2, .int .i64 tb, .int .i64 2, .slice none 0 0, .int .i64 0, .int .i64 0, .bool false, .int .i64 0, .slice none 0 0]) (by simp) rfl).set (k := 5) (v := .int .i64 0) (cs' := #[.int .i64 2, .int .i64 tb, .int .i64 2, .slice none 0 0, .int .i64 0, .int .i64 0, .bool false, .int .i64 0, .slice none 0 0]) (by simp) rfl).set (k := 6) (v := .bool false) (cs' := #[.int .i64 2, .int .i64 tb, .int .i64 2, .slice none 0 0, .int .i64 0, .int .i64 0, .bool false, .int .i64 0, .slice none 0 0]) (by simp) rfl).set (k := 7) (v := .int .i64 0) (cs' := #[.int .i64 2, .int .i64 tb, .int .i64 2, .slice none 0 0, .int .i64 0, .int .i64 0, .bool false, .int .i64 0, .slice none 0 0]) (by simp) rfl).set (k := 8) (v := .slice none 0 0) (cs' := #[.int .i64 2, .int .i64 tb, .int .i64 2, .slice none 0 0, .int .i64 0, .int .i64 0, .bool false, .int .i64 0, .slice none 0 0]) (by simp) rfl)
          have hbf := (((((((((hbw.setCell (p := ⟨w.heap.size + 1, 0, none⟩) (by show w.heap.size ≤ w.heap.size + 1; omega) (.int .i64 2)).setCell (p := ⟨w.heap.size + 1, 1, none⟩) (by show w.heap.size ≤ w.heap.size + 1; omega) (.int .i64 tb)).setCell (p := ⟨w.heap.size + 1, 2, none⟩) (by show w.heap.size ≤ w.heap.size + 1; omega) (.int .i64 2)).setCell (p := ⟨w.heap.size + 1, 3, none⟩) (by show w.heap.size ≤ w.heap.size + 1; omega) (.slice none 0 0)).setCell (p := ⟨w.heap.size + 1, 4, none⟩) (by show w.heap.size ≤ w.heap.size + 1; omega) (.int .i64 0)).setCell (p := ⟨w.heap.size + 1, 5, none⟩) (by show w.heap.size ≤ w.heap.size + 1; omega) (.int .i64 0)).setCell (p := ⟨w.heap.size + 1, 6, none⟩) (by show w.heap.size ≤ w.heap.size + 1; omega) (.bool false)).setCell (p := ⟨w.heap.size + 1, 7, none⟩) (by show w.heap.size ≤ w.heap.size + 1; omega) (.int .i64 0)).setCell (p := ⟨w.heap.size + 1, 8, none⟩) (by show w.heap.size ≤ w.heap.size + 1; omega) (.slice none 0 0))
          clear hx
          go_wp2
          obtain ⟨qf, zf, lf⟩ := hBf
          refine bodyPost_ret (v := ocV (truthO tb false)) (by simp [results, Try.results22, go_sem, qf, zf, lf, truthO]) rfl ⟨rfl, hbf⟩
        · have hnx : ∀ j, j < k + 1 → xs[l + j]? = some true := by
            intro j hj
            by_cases hjk : j < k
            · exact HALL.out j hjk
            · obtain rfl : j = k := by omega
              rw [List.getElem?_eq_getElem hlk, hx]
          have HNX := Lib.hid hnx
          clear hx hnx
          go_wp2_with fail
          go_roundw
          case rel => exact ⟨k + 1, by omega, by go_num, by trivial, HNX.out⟩
          case measure => simp [intOf]; omega
    · obtain rfl : k = n := by omega
      have hys : yes = true := by rw [← HY.out]; exact allT_all xs l k HALL.out
      subst hys
      have hBf := (((((((((HB2.out.set (k := 0) (v := .int .i64 1) (cs' := #[.int .i64 1, .int .i64 0, .int .i64 0, .slice none 0 0, .int .i64 0, .int .i64 0, .bool false, .int .i64 0, .slice none 0 0]) (by simp) rfl).set (k := 1) (v := .int .i64 tb) (cs' := #[.int .i64 1, .int .i64 tb, .int .i64 0, .slice none 0 0, .int .i64 0, .int .i64 0, .bool false, .int .i64 0, .slice none 0 0]) (by simp) rfl).set (k := 2) (v := .int .i64 0) (cs' := #[.int .i64 1, .int .i64 tb, .int .i64 0, .slice none 0 0, .int .i64 0, .int .i64 0, .bool false, .int .i64 0, .slice none 0 0]) (by simp) rfl).set (k := 3) (v := .slice none 0 0) (cs' := #[.int .i64 1, .int .i64 tb, .int .i64 0, .slice none 0 0, .int .i64 0, .int .i64 0, .bool false, .int .i64 0, .slice none 0 0]) (by simp) rfl).set (k := 4) (v := .int .i64 0) (cs' := #[.int .i64 1, .int .i64 tb, .int .i64 0, .slice none 0 0, .int .i64 0, .int .i64 0, .bool false, .int .i64 0, .slice none 0 0]) (by simp) rfl).set (k := 5) (v := .int .i64 0) (cs' := #[.int .i64 1, .int .i64 tb, .int .i64 0, .slice none 0 0, .int .i64 0, .int .i64 0, .bool false, .int .i64 0, .slice none 0 0]) (by simp) rfl).set (k := 6) (v := .bool false) (cs' := #[.int .i64 1, .int .i64 tb, .int .i64 0, .slice none 0 0, .int .i64 0, .int .i64 0, .bool false, .int .i64 0, .slice none 0 0]) (by simp) rfl).set (k := 7) (v := .int .i64 0) (cs' := #[.int .i64 1, .int .i64 tb, .int .i64 0, .slice none 0 0, .int .i64 0, .int .i64 0, .bool false, .int .i64 0, .slice none 0 0]) (by simp) rfl).set (k := 8) (v := .slice none 0 0) (cs' := #[.int .i64 1, .int .i64 tb, .int .i64 0, .slice none 0 0, .int .i64 0, .int .i64 0, .bool false, .int .i64 0, .slice none 0 0]) (by simp) rfl)
      have hbf := (((((((((hbw.setCell (p := ⟨w.heap.size + 1, 0, none⟩) (by show w.heap.size ≤ w.heap.size + 1; omega) (.int .i64 1)).setCell (p := ⟨w.heap.size + 1, 1, none⟩) (by show w.heap.size ≤ w.heap.size + 1; omega) (.int .i64 tb)).setCell (p := ⟨w.heap.size + 1, 2, none⟩) (by show w.heap.size ≤ w.heap.size + 1; omega) (.int .i64 0)).setCell (p := ⟨w.heap.size + 1, 3, none⟩) (by show w.heap.size ≤ w.heap.size + 1; omega) (.slice none 0 0)).setCell (p := ⟨w.heap.size + 1, 4, none⟩) (by show w.heap.size ≤ w.heap.size + 1; omega) (.int .i64 0)).setCell (p := ⟨w.heap.size + 1, 5, none⟩) (by show w.heap.size ≤ w.heap.size + 1; omega) (.int .i64 0)).setCell (p := ⟨w.heap.size + 1, 6, none⟩) (by show w.heap.size ≤ w.heap.size + 1; omega) (.bool false)).setCell (p := ⟨w.heap.size + 1, 7, none⟩) (by show w.heap.size ≤ w.heap.size + 1; omega) (.int .i64 0)).setCell (p := ⟨w.heap.size + 1, 8, none⟩) (by show w.heap.size ≤ w.heap.size + 1; omega) (.slice none 0 0))
      go_wp2
      obtain ⟨qf, zf, lf⟩ := hBf
      refine bodyPost_ret (v := ocV (truthO tb true)) (by simp [results, Try.results22, go_sem, qf, zf, lf, truthO]) rfl ⟨rfl, hbf⟩
end Go.Proofs.Ytdkkfahnkenplaa

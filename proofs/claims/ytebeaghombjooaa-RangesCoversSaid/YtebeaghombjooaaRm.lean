/- Layer 12: contract of ranges.Of: the same list as the reference's. -/
import Derived.Test.YtebeaghombjooaaRl
set_option linter.unusedVariables false
set_option linter.unusedSimpArgs false
namespace Go.Proofs.Ytebeaghombjooaa
open Go.RowKit

def ofTo (c : List Int) : Nat → List Rg
  | 0 => []
  | k + 1 => if 0 ≤ cut c k ∧ cut c k < 65536 then pushR (ofTo c k) (cut c k) (cut c k + 1) else ofTo c k
theorem ofTo_len (c : List Int) (k : Nat) : (ofTo c k).length ≤ k := by
  induction k with
  | zero => simp [ofTo]
  | succ k ih =>
    rw [ofTo]
    split
    · have := (pushR_length (ofTo c k) (cut c k) (cut c k + 1)).2; omega
    · omega
theorem ofTo_spec (c : List Int) (hp : c.Pairwise (fun x y => x < y)) (k : Nat) (hk : k ≤ c.length) :
    (∀ e, 0 ≤ e → (∀ j, j < k → cut c j < e) → PInv (ofTo c k) e) ∧ ∀ a, inL (ofTo c k) a = (decide (0 ≤ a ∧ a < 65536) && decide (a ∈ c.take k)) := by
  induction k with
  | zero =>
    refine ⟨fun e he _ => PInv.nil (by omega), fun a => ?_⟩
    have : decide (a ∈ c.take 0) = false := by simp
    rw [this, Bool.and_false]; rfl
  | succ k ih =>
    obtain ⟨h1, h2⟩ := ih (by omega)
    have hck : cut c k = c[k] := cut_eq c k (by omega)
    have hlt : ∀ j, j < k → cut c j < cut c k := fun j hj => by
      rw [hck, cut_eq c j (by omega)]
      exact List.pairwise_iff_getElem.1 hp j k (by omega) (by omega) hj
    have hmem : ∀ a, a ∈ c.take (k + 1) ↔ a ∈ c.take k ∨ a = cut c k := fun a => by
      rw [List.take_succ_eq_append_getElem (by omega), List.mem_append, hck]; simp
    by_cases hr : 0 ≤ cut c k ∧ cut c k < 65536
    · have he : ofTo c (k + 1) = pushR (ofTo c k) (cut c k) (cut c k + 1) := by rw [ofTo, if_pos hr]
      obtain ⟨k1, k2, _⟩ := pushR_spec (ofTo c k) (cut c k) (cut c k + 1) hr.1 (by omega) (h1 _ hr.1 hlt) (by omega)
      rw [he]
      refine ⟨fun e he0 hj => k1.mono (by have := hj k (by omega); omega), fun a => ?_⟩
      rw [k2, h2, Bool.eq_iff_iff]
      simp only [Bool.or_eq_true, Bool.and_eq_true, decide_eq_true_eq, hmem]
      constructor
      · rintro (⟨h, hm⟩ | h)
        · exact ⟨h, .inl hm⟩
        · exact ⟨by omega, .inr (by omega)⟩
      · rintro ⟨h, hm | hm⟩
        · exact .inl ⟨h, hm⟩
        · exact .inr (by omega)
    · have he : ofTo c (k + 1) = ofTo c k := by rw [ofTo, if_neg hr]
      rw [he]
      refine ⟨fun e he0 hj => h1 e he0 fun j hj2 => hj j (by omega), fun a => ?_⟩
      rw [h2, Bool.eq_iff_iff]
      simp only [Bool.and_eq_true, decide_eq_true_eq, hmem]
      constructor
      · rintro ⟨h, hm⟩; exact ⟨h, .inl hm⟩
      · rintro ⟨h, hm | hm⟩
        · exact ⟨h, hm⟩
        · exact absurd (by rw [← hm]; exact h) hr
theorem of_close (l : List Int) (N : Nat) (hN : N = 65536) : ofTo (Lib.compact (sortL l)) (Lib.compact (sortL l)).length = closeTo (ofF l) N := by
  obtain ⟨h1, h2⟩ := ofTo_spec (Lib.compact (sortL l)) (compact_pair _ (sortL_pair l)) _ (Nat.le_refl _)
  have hv : validL (ofTo (Lib.compact (sortL l)) (Lib.compact (sortL l)).length) = true := by
    obtain ⟨M, hM⟩ : ∃ M : Int, 0 ≤ M ∧ ∀ j, j < (Lib.compact (sortL l)).length → cut (Lib.compact (sortL l)) j < M := by
      have gen : ∀ (c : List Int) (n : Nat), ∃ M : Int, 0 ≤ M ∧ ∀ j, j < n → cut c j < M := by
        intro c n
        induction n with
        | zero => exact ⟨0, by omega, fun j hj => absurd hj (by omega)⟩
        | succ n ih =>
          obtain ⟨M, h0, hM⟩ := ih
          refine ⟨max M (cut c n + 1), by omega, fun j hj => ?_⟩
          by_cases e : j = n
          · subst e; omega
          · have := hM j (by omega); omega
      exact gen _ _
    exact (h1 M hM.1 hM.2).valid
  refine (close_eq _ hv _ N hN fun i hi => ?_).symm
  rw [h2, List.take_length]
  have : decide (0 ≤ (i : Int) ∧ (i : Int) < 65536) = true := by simp only [decide_eq_true_eq]; omega
  rw [this, Bool.true_and, Bool.eq_iff_iff, decide_eq_true_eq, compact_mem, sortL_mem, ofF, List.any_eq_true]
  constructor
  · intro h; exact ⟨_, h, by simp⟩
  · rintro ⟨x, hx, he⟩
    simp only [beq_iff_eq] at he
    rw [← he]; exact hx

theorem values_any (A : Option Addr) (n c : Nat) (w : World) : Calls Try.prog 37 #[.slice A n c] w fun e w' => e = .returned (seqV w.heap.size) ∧ w.alloc (.cells #[.slice A n c] 28) = w' := by
  go_enter Try.func37, Try.ntmps37
  go_wp2
  go_ret
  exact ⟨rfl, rfl⟩

set_option maxHeartbeats 2000000 in
theorem of_any (l : List Int) (A : Option Addr) (n c B N : Nat) (w : World) (hr : Rd w B 1 A n (i64s l)) (hn : n ≤ 10000) (hN : N = 65536) (hwf : ∀ x ∈ l, -9223372036854775808 ≤ x ∧ x ≤ 9223372036854775807) :
    Calls Try.prog 16 #[.slice A n c] w (RetR w (closeTo (ofF l) N)) := by
  have hr := hr.fits (by decide)
  have hl := hr.ilen
  rw [← of_close l N hN]
  have hb0 : Below w.heap.size w (w.alloc (.cells #[.slice A n c] 28)) := (Below.refl _ _).alloc (Nat.le_refl _) _
  have HSO := Lib.hid (sorted_any w.heap.size c n A l (by omega) (w.alloc (.cells #[.slice A n c] 28)) (by simp) (Box.alloc_.1 0) ((hr.below hb0 (Nat.le_refl _)).more hb0.size))
  have hcw : ∀ k, k < (Lib.compact (sortL l)).length → -9223372036854775808 ≤ cut (Lib.compact (sortL l)) k ∧ cut (Lib.compact (sortL l)) k ≤ 9223372036854775807 := fun k hk => by
    rw [cut_eq _ _ hk]
    exact hwf _ ((sortL_mem l _).1 ((compact_mem _ _).1 (List.getElem_mem _)))
  have hspec := fun k hk => (ofTo_spec (Lib.compact (sortL l)) (compact_pair _ (sortL_pair l)) k hk).1
  have hmono : ∀ j k, j < k → k < (Lib.compact (sortL l)).length → cut (Lib.compact (sortL l)) j < cut (Lib.compact (sortL l)) k := fun j k hjk hk => by
    rw [cut_eq _ _ hk, cut_eq _ _ (by omega)]
    exact List.pairwise_iff_getElem.1 (compact_pair _ (sortL_pair l)) j k (by omega) hk hjk
  obtain ⟨C, hC⟩ : ∃ C, Lib.compact (sortL l) = C := ⟨_, rfl⟩
  rw [hC] at hcw hspec hmono ⊢
  have HC := Lib.hid hC
  have HCW := Lib.hid hcw
  have HSPEC := Lib.hid hspec
  have HMONO := Lib.hid hmono
  have HLEN := Lib.hid (fun k => ofTo_len C k)
  have HB0 := Lib.hid hb0
  have hl2 : l.length ≤ 10000 := by omega
  clear hr hN hcw hspec hC hwf hl hmono hb0
  go_enter Try.func16, Try.ntmps16
  go_wp2_with fail
  refine (values_any A n c w).mono ?_
  rintro e w0 ⟨rfl, rfl⟩
  go_wp2_with fail
  refine HSO.out.mono ?_
  rintro e w1 ⟨v, rfl, hown1, hb1⟩
  have HCO := Lib.hid (compact_any v l.length _ (sortL l) w1 hown1 (by omega))
  have HGB := Lib.hid (fun (W : World) (hg : w1.grownBy W v.ownBlock) => below_row hb1 hown1 hg (Nat.le_refl _) hb1.size)
  obtain ⟨A1, c1, rfl, _, _⟩ := own_form hown1
  clear hown1 hb1 HSO
  go_wp2_with fail
  refine HCO.out.mono ?_
  rintro e w2 ⟨⟨A2, n2, c2, rfl, hn2, hR2⟩, hg2⟩
  have hbw := ext_trans HB0.out (HGB.out w2 hg2)
  rw [HC.out] at hR2
  have HR2 := Lib.hid hR2
  have HBW := Lib.hid hbw
  have hcl : C.length = n2 := hR2.ilen
  have HCL := Lib.hid hcl
  clear hR2 hg2 HGB HCO hbw hcl
  go_wp2_with fail
  go_loopw [4, 13] (fun v i wr => ∃ k : Nat, k ≤ n2 ∧ i = .int .i64 k ∧ wr.ownsRow w2.heap.size 37 2 v (ofTo C k).length (rgCells (ofTo C k)) ∧ Below w2.heap.size w2 wr) (fun _ i _ => n2 - (intOf i).toNat)
  case atStart => exact ⟨0, by omega, rfl, World.ownsRow_nil _ _ _ _, Below.refl _ _⟩
  case round =>
    obtain ⟨k, hk, rfl, hown, hbr⟩ := hrel
    have HOW := Lib.hid hown
    have HBR := Lib.hid hbr
    by_cases hlt : k < n2
    · obtain ⟨b, off, rfl, hbl, hk', c0⟩ := int_cells (HR2.out.below hbr (Nat.le_refl _)) k hlt
      have hcut := (cut_eq C k hk').symm
      rw [hcut] at c0
      have hwf := HCW.out k hk'
      have hlenk := HLEN.out k
      have hstep : ∀ q, (decide (0 ≤ cut C k ∧ cut C k < 65536)) = q → ofTo C (k + 1) = if q = true then pushR (ofTo C k) (cut C k) (cut C k + 1) else ofTo C k := by
        intro q h
        rw [ofTo, ← h]
        simp
      have HST := Lib.hid hstep
      have hpi : 0 ≤ cut C k → PInv (ofTo C k) (cut C k) := fun h => HSPEC.out k (by have := HCL.out; omega) (cut C k) h fun j hj => HMONO.out j k hj hk'
      have HPI := Lib.hid hpi
      obtain ⟨x, hx⟩ : ∃ x, cut C k = x := ⟨_, rfl⟩
      rw [hx] at c0 hwf HST HPI
      clear hown hbr hcut hstep hpi hx
      obtain ⟨w1', w2'⟩ := hwf
      by_cases h1 : 0 ≤ x
      · by_cases h2 : x < 65536
        · have HPU := Lib.hid (push_any u4 _ w2.heap.size (ofTo C k) x (x + 1) wr HOW.out HBR.out.size (by omega) ⟨h1, by omega⟩ ⟨by omega, by omega⟩ (HPI.out h1).mem)
          have hnx : ofTo C (k + 1) = pushR (ofTo C k) x (x + 1) := by rw [HST.out true (by simp; omega), if_pos rfl]
          have HNX := Lib.hid hnx
          clear hnx
          go_wp2_with fail
          refine HPU.out.mono ?_
          rintro e w6 ⟨v6, rfl, hown6, hg6, hn6⟩
          have hb6 := below_row HBR.out HOW.out hg6 (Nat.le_refl _) HBR.out.size
          rw [← HNX.out] at hown6
          have HO6 := Lib.hid hown6
          clear hown6 hg6 hn6
          go_wp2
          exact ⟨⟨k + 1, by omega, by go_num, HO6.out, hb6⟩, by simp [intOf]; omega⟩
        · have d2 : decide (x < 65536) = false := by simp; omega
          have hnx : ofTo C (k + 1) = ofTo C k := by rw [HST.out false (by simp; omega)]; rfl
          have HNX := Lib.hid hnx
          clear hnx h2
          go_wp2
          exact ⟨⟨k + 1, by omega, by go_num, by rw [HNX.out]; exact HOW.out, HBR.out⟩, by simp [intOf]; omega⟩
      · have d1 : decide (0 ≤ x) = false := by simp; omega
        have hnx : ofTo C (k + 1) = ofTo C k := by rw [HST.out false (by simp; omega)]; rfl
        have HNX := Lib.hid hnx
        clear hnx h1
        go_wp2
        exact ⟨⟨k + 1, by omega, by go_num, by rw [HNX.out]; exact HOW.out, HBR.out⟩, by simp [intOf]; omega⟩
    · obtain rfl : k = n2 := by omega
      rw [show k = C.length from HCL.out.symm] at hown
      obtain ⟨A8, c8, rfl, _, _⟩ := own_form hown
      have HO8 := Lib.hid hown
      clear hown hbr HOW
      go_wp2
      go_ret
      exact ⟨.slice A8 (ofTo C C.length).length c8, rfl, own_mono HO8.out HBW.out.size, HBW.out.trans (HBR.out.mono HBW.out.size)⟩
end Go.Proofs.Ytebeaghombjooaa

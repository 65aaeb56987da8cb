/- The law ServerOwn as a contract. -/
import Derived.Test.YtmelkboejkoiiaaServerL
set_option linter.unusedVariables false
set_option linter.unusedSimpArgs false
namespace Go.Proofs.Ytmelkboejkoiiaa
open Go.RowKit

theorem bytes_any (A : Option Addr) (n c m : Nat) (w : World) (hl : n ≤ c) (hc : c ≤ maxLen) (hm : m ≤ 1000000) :
    Calls Try.prog 10 #[.slice A n c, .int .i64 m] w fun e w' => e = .returned (.slice A (min n m) c) ∧ w = w' := by
  unfold maxLen at hc
  by_cases h : n ≤ m
  · have e : min n m = n := Nat.min_eq_left h
    have HE := Lib.hid e; clear e
    go_enter Try.func10, Try.ntmps10
    go_wp2
    go_ret
    exact ⟨by rw [HE.out]; rfl, rfl⟩
  · have e : min n m = m := Nat.min_eq_right (by omega)
    have HE := Lib.hid e; clear e
    have h' : m < n := by omega
    clear h
    go_enter Try.func10, Try.ntmps10
    go_wp2
    go_ret
    exact ⟨by rw [HE.out]; rfl, rfl⟩

set_option maxRecDepth 100000 in
set_option maxHeartbeats 1000000 in
theorem lawOwn_any (A : Option Addr) (n c : Nat) (xs0 : List Int) (w : World) (hr0 : Rd w w.heap.size 1 A n (by8 xs0)) (hl : n ≤ c) (hc : c ≤ maxLen) :
    Calls Try.prog 4 #[.slice A n c] w fun e w' => e = .returned (.bool true) ∧ Below w.heap.size w w' := by
  obtain ⟨m, hm⟩ : ∃ m, min n 100 = m := ⟨_, rfl⟩
  have hm1 : m ≤ n := by omega
  have hm2 : m ≤ 100 := by omega
  have hr := hr0.take hm1
  obtain ⟨xs, hxs⟩ : ∃ xs, xs0.take m = xs := ⟨_, rfl⟩
  rw [Nat.mul_one, by8, ← List.map_take, hxs] at hr
  have hB := fun w => bytes_any A n c 100 w hl hc (by omega)
  rw [hm] at hB
  have HB := Lib.hid hB; clear hB hm hxs hr0 hl hc
  go_enter Try.func4, Try.ntmps4
  go_wp2_with fail
  refine (HB.out _).mono ?_
  rintro e w' ⟨rfl, rfl⟩
  go_wp2_with (at_builtin; refine wpList_appR (.tmp 7) (.tmp 9) 22 w.heap.size 5 _ 1 1 _ 1 [.int .u8 1] w.heap.size A m c _ Try.underlying22 byteInfo rfl (by decide) rfl rfl rfl rfl (World.ownsRow_lit _ _ 1 (Nat.le_refl _) (by simp [maxLen]) rfl) (hr.alloc' _ (Nat.le_refl _)) (one_ints _ _) (by omega) (by omega) (by simp) ?_; intro v1 w1 hown1 hg1 hb1)
  clear hg1
  have hbw1 : Below w.heap.size w w1 := ((Below.refl _ w).alloc (Nat.le_refl _) _).trans hb1
  have hlen : xs.length = m := by have := hr.1; simpa using this
  have e8 : [Value.int .u8 1] ++ by8 xs = by8 (1 :: xs) := rfl
  rw [e8, Nat.add_comm 1 m] at hown1
  obtain ⟨g, cap, rfl, hgw, hglt⟩ := hown1.form (by omega)
  obtain ⟨ys, hys⟩ : ∃ ys, (1 :: xs : List Int) = ys := ⟨_, rfl⟩
  have hyl : ys.length = m + 1 := by rw [← hys]; simp [hlen]
  rw [hys] at hown1
  have HYL := Lib.hid hyl; clear hyl hys e8 hlen
  have hR1 := Rd.of_own hown1
  have s1 := hR1.str (c := cap)
  go_simp
  go_wp2_with fail
  have hsrv : srv 1 17 0 ys = (2, ys) := by rw [srv, if_pos ⟨rfl, rfl, by rw [HYL.out]; omega⟩]
  refine (result_any 1 17 0 0 0 0 false _ none (m + 1) cap 0 0 _ ys _ hR1 (by omega)).mono ?_
  rw [hsrv]
  clear hsrv
  rintro e w2 ⟨A2, c2, rfl, hown2, hb2⟩
  simp only [HYL.out] at hown2 ⊢
  have hown1' := own_below hown1 hb2 (Nat.le_refl _)
  clear s1 hown1 hR1
  have hsz2 := hb2.size
  go_wp2_with fail
  have hbw2 : Below w.heap.size w w2 := ext_trans hbw1 hb2
  clear hb1 hbw1 hb2
  go_loopw [6] (fun i wr => ∃ k : Nat, k ≤ m + 1 ∧ i = .int .i64 k ∧ (∃ zs : List Int, zs.length = m + 1 ∧ wr.ownsRow w.heap.size 5 1 (.slice (some ⟨g, 0, none⟩) (m + 1) cap) (m + 1) (by8 zs)) ∧ wr.ownsRow w1.heap.size 5 1 (.slice A2 (m + 1) c2) (m + 1) (by8 ys) ∧ Below w.heap.size w wr) (fun i _ => m + 1 - (intOf i).toNat)
  case atStart => exact ⟨0, by omega, rfl, ⟨ys, HYL.out, hown1'⟩, hown2, hbw2⟩
  case round =>
    obtain ⟨k, hk, rfl, ⟨zs, hzl, hz⟩, hd, hbw⟩ := hrel
    clear hown1' hown2 hbw2
    by_cases hlt : k < m + 1
    · have hc : wr.cell? ⟨g, k, none⟩ = some (.int .u8 (zs[k]'(by omega))) := by
        rw [hz.cellAt k (by omega)]; simp [by8, List.getElem?_eq_getElem (show k < zs.length by omega)]
      have hf := hz.frozenAt k
      obtain ⟨z, hzz⟩ : ∃ z, zs[k]'(by omega) = z := ⟨_, rfl⟩
      rw [hzz] at hc
      have HZL := Lib.hid hzl; clear hzl hzz
      go_wp2
      refine ⟨⟨k + 1, by omega, by go_num, ⟨zs.set k ((z + 1) % 256), by rw [List.length_set]; exact HZL.out, ?_⟩, ?_, ?_⟩, by simp [intOf]; omega⟩
      · rw [by8, List.map_set]
        exact (hz.stored k _).1
      · exact ownsRow_setCell_below hd (by exact hglt) _
      · exact hbw.setCell (by exact hgw) _
    · obtain rfl : k = m + 1 := by omega
      have hRd := Rd.of_own hd
      clear hz hzl
      go_wp2_with fail
      refine (awake_any _).mono ?_
      rintro e w4 ⟨rfl, hb4⟩
      have s4 := (hRd.below hb4 (Nat.le_refl _)).str (c := c2)
      go_wp2
      go_ret
      exact ⟨rfl, ext_trans hbw hb4⟩

theorem ownI (A : Option Addr) (n c : Nat) (xs : List Int) (w : World) (hr : Rd w w.heap.size 1 A n (by8 xs)) (hl : n ≤ c) (hc : c ≤ maxLen) :
    Calls Try.prog 4 #[.slice A n c] w fun e w' => e = .returned (.bool true) ∧ Below w.heap.size w w' := lawOwn_any A n c xs w hr hl hc

open Go.ChangeShapes Go.WideShapes in
theorem open_bytes {H : Type} {enc : TypeId × Value → H} {w : World} {base : Nat} {spare : Nat → Bool} {held : Bool} {r : Reach} {b0 : Nat} {v : Value} {d : DataW H} {p : List MemPlace} (hv : Value.okWide Try.prog w r b0 22 v) (h : DataW.Trod enc Try.prog w base spare held 22 v d p) :
    ∃ (A : Option Addr) (n c : Nat) (xs : List Int), v = .slice A n c ∧ n ≤ c ∧ c ≤ maxLen ∧ Rd w w.heap.size 1 A n (by8 xs) ∧ ∀ x ∈ xs, (Lit.int .u8 x).wf = true := by
  obtain ⟨a0, len, cap, rfl⟩ := okWide_slice Try.underlying22 hv
  obtain ⟨fuel, hf⟩ := h
  obtain ⟨A, n, c, xs, hcs, r⟩ := trod_bytes hf
  simp only [Value.cells, List.cons.injEq, Value.slice.injEq, and_true] at hcs
  obtain ⟨rfl, rfl, rfl⟩ := hcs
  exact ⟨_, _, _, xs, rfl, r⟩
end Go.Proofs.Ytmelkboejkoiiaa

/- Layer 4: contracts of package runs (over int): push, part. -/
import Derived.Test.YtdkkfahnkenplaaRun
import Derived.Test.YtdkkfahnkenplaaLib4
set_option linter.unusedVariables false
set_option linter.unusedSimpArgs false
namespace Go.Proofs.Ytdkkfahnkenplaa
open Go.RowKit

theorem rn_set_last (a : List (Rn Int)) (l : Rn Int) (x : Nat) : (rnCells (a ++ [l])).set (a.length * 2) (.int .i64 (x : Int)) = rnCells (a ++ [(x, l.2)]) := by
  rw [rnCells_append, rnCells_append, List.set_append, if_neg (by rw [rnCells_length]; omega), rnCells_length, Nat.sub_self]
  rfl
theorem own_box {w : World} {base : Nat} {e : TypeId} {size n : Nat} {v : Value} {xs : List Value} (h : w.ownsRow base e size v n xs) (o : Obj) : (w.alloc o).ownsRow base e size v n xs := h.alloc o

theorem two_one (a b : Int) : ∀ u ∈ [Value.int .i64 a, .int .i64 b], u.oneCell' = true := by simp [Value.oneCell']
/-- The list that 'push' leaves, as a row of the call's own. -/
def Pushed (base : Nat) (w : World) (v : Value) (rs : List (Rn Int)) (e : Ending) (w' : World) : Prop := ∃ v', e = .returned v' ∧ w'.ownsRow base 74 2 v' rs.length (rnCells rs) ∧ w.grownBy w' v.ownBlock ∧ OwnNext w v v'

set_option maxHeartbeats 1000000 in
theorem push_any (v : Value) (n base : Nat) (rs : List (Rn Int)) (r : Rn Int) (w : World) (hown : w.ownsRow base 74 2 v n (rnCells rs)) (hbase : base ≤ w.heap.size) (hn : n ≤ 100000) (hb : tot rs + r.1 ≤ 1000000000) :
    Calls Try.prog 43 #[v, .agg #[.int .i64 r.1, .int .i64 r.2]] w (Pushed base w v (pushL rs r)) := by
  obtain ⟨c, x⟩ := r
  simp only at hb ⊢
  have hl : rs.length = n := by have := hown.1; rw [rnCells_length] at this; omega
  obtain ⟨A, cap, rfl, hcap, hR⟩ := own_form hown
  by_cases h0 : c < 1
  · have hp : pushL rs (c, x) = rs := by rw [pushL, if_pos h0]
    obtain rfl : c = 0 := by omega
    rw [hp]
    have HL := Lib.hid hl
    clear hp hl h0 hR hcap
    go_enter Try.func43, Try.ntmps43
    go_wp2
    go_ret
    exact ⟨_, rfl, by rw [HL.out]; exact own_box hown _, grown_after ((Below.refl _ _).alloc (Nat.le_refl _) _) (World.grownBy.refl _ _), .inl rfl⟩
  · have happ : ∀ (c1 : Value) (w1 : World), w1.ownsRow base 74 2 c1 (n + 1) (rnCells rs ++ [.int .i64 c, .int .i64 x]) → w1.ownsRow base 74 2 c1 (rs ++ [(c, x)]).length (rnCells (rs ++ [(c, x)])) := by
      intro c1 w1 h
      rw [rnCells_append, List.length_append, hl]; exact h
    have HAPP := Lib.hid happ
    have HO := Lib.hid (fun o => own_box hown o)
    have HZ := Lib.hid (fun (o : Obj) (k : Nat) => (show ((w.alloc o).drewN k).heap.size = w.heap.size + 1 from by show (w.alloc o).heap.size = _; simp))
    clear happ
    rcases Nat.eq_zero_or_pos n with hz | hz
    · subst hz
      have hnil : rs = [] := List.eq_nil_of_length_eq_zero hl
      have hp : pushL rs (c, x) = rs ++ [(c, x)] := by rw [pushL, if_neg h0, hnil]; rfl
      rw [hp]
      have hc1 : ¬ (c : Int) < 1 := by omega
      have hc2 : decide ((c : Int) < 1) = false := by simp; omega
      clear hp hl h0 hR hnil hc1 hown
      go_enter Try.func43, Try.ntmps43
      go_wp2_with fail
      go_quiet (fail)
      obtain ⟨W0, hW0⟩ : ∃ W0, (w.alloc (.cells #[.int .i64 (c : Int), .int .i64 x] 74)).drewN nq = W0 := ⟨_, rfl⟩
      rw [hW0]
      have hB0 : Box W0 w.heap.size #[.int .i64 (c : Int), .int .i64 x] := by rw [← hW0]; exact Box.alloc_
      have hO0 := HO.out (.cells #[.int .i64 (c : Int), .int .i64 x] 74)
      have hO1 : W0.ownsRow base 74 2 (.slice A 0 cap) 0 (rnCells rs) := by rw [← hW0]; exact hO0
      have hbw0 : Below w.heap.size w W0 := by rw [← hW0]; exact below_drewN ((Below.refl _ _).alloc (Nat.le_refl _) _) _
      obtain ⟨q1, z1, l1'⟩ := hB0
      have hs0 := hbw0.size
      have HBS0 := Lib.hid (fun (o : Obj) => (show base ≤ (W0.alloc o).heap.size from by simp; omega))
      clear hW0 hO0 HO HZ
      go_wp2_with (at_builtin; refine wpList_appN (.tmp 36) (.tmp 38) 65 base 74 _ 2 16 _ 0 (rnCells rs) (W0.heap.size + 1) (some ⟨W0.heap.size, 0, none⟩) 1 1 _ Try.underlying65 rnInfo rfl (by decide) rfl rfl rfl rfl (own_box hO1 _) (Rd.lit rfl (Nat.lt_succ_self _)) (two_one _ _) (by omega) (by omega) (HBS0.out _) ?_; intro v1 w1 hown1 hg1 hn1 hb1)
      go_ret
      exact ⟨_, rfl, HAPP.out _ _ hown1, grown_after (hbw0.alloc hbw0.size _) hg1, hn1.after (by simp; omega)⟩
    · obtain ⟨m, rfl⟩ : ∃ m, n = m + 1 := ⟨n - 1, by omega⟩
      obtain ⟨g, cap', hv, hgb, hgl⟩ := hown.form (by omega)
      injection hv with hA _ hcc
      subst hA hcc
      have hne : rs ≠ [] := by rintro rfl; simp at hl
      have hlast : rs.getLast? = some (rs[m]'(by omega)) := by
        rw [List.getLast?_eq_getElem?]; simp [hl]
      have hspl := last_split hlast
      obtain ⟨a, ha⟩ : ∃ a, rs.dropLast = a := ⟨_, rfl⟩
      obtain ⟨l1, l2, hlv⟩ : ∃ l1 l2, rs[m]'(by omega) = (l1, l2) := ⟨_, _, rfl⟩
      rw [ha, hlv] at hspl
      rw [hlv] at hlast
      have hal : a.length = m := by have := congrArg List.length hspl; simp at this; omega
      obtain ⟨hc0, hc1⟩ := rnCells_get rs m (by omega)
      rw [hlv] at hc0 hc1
      have d0 : w.cell? ⟨g, m * 2, none⟩ = some (.int .i64 l1) := by rw [hown.cellAt _ (by omega)]; exact hc0
      have d1 : w.cell? ⟨g, m * 2 + 1, none⟩ = some (.int .i64 l2) := by rw [hown.cellAt _ (by omega)]; exact hc1
      have dz : ∀ i, w.frozen? ⟨g, i, none⟩ = false := fun i => hown.frozenAt i
      have hc2 : decide ((c : Int) < 1) = false := by simp; omega
      have htot : l1 ≤ tot rs := by rw [hspl, tot_append]; simp [tot]
      have f3 : IntKind.i64.wrap ((m : Int) + 1 - 1) = (m : Int) := by rw [IntWalk.i64_in _ ⟨by omega, by omega⟩]; omega
      have f4 : IntKind.i64.wrap ((l1 : Int) + (c : Int)) = (l1 : Int) + (c : Int) := IntWalk.i64_in _ ⟨by omega, by omega⟩
      by_cases hx : l2 = x
      · subst hx
        have hp : pushL rs (c, l2) = a ++ [(l1 + c, l2)] := by rw [pushL, if_neg h0, hlast]; simp [ha]
        rw [hp]
        have hset : (rnCells rs).set (m * 2) (.int .i64 ((l1 + c : Nat) : Int)) = rnCells (a ++ [(l1 + c, l2)]) := by
          rw [hspl, ← hal]; exact rn_set_last a (l1, l2) (l1 + c)
        have HSET := Lib.hid hset
        have HAL := Lib.hid hal
        clear hp hl h0 hR hlast hspl ha hlv hal hset hne HAPP hc0 hc1 hown
        go_enter Try.func43, Try.ntmps43
        go_wp2_with fail
        go_quiet (fail)
        go_wp2_with fail
        go_region
        go_wp2
        go_ret
        have hst := ((HO.out (.cells #[.int .i64 (c : Int), .int .i64 l2] 74)).stored (m * 2) (.int .i64 ((l1 : Int) + (c : Int)))).1
        have e1 : (Value.int .i64 ((l1 : Int) + (c : Int))) = .int .i64 ((l1 + c : Nat) : Int) := by rw [Int.natCast_add]
        rw [e1, HSET.out] at hst
        have hlen : (a ++ [(l1 + c, l2)]).length = m + 1 := by simp [HAL.out]
        refine ⟨_, rfl, ?_, one_set (grown_after (below_drewN ((Below.refl _ _).alloc (Nat.le_refl _) _) _) (World.grownBy.refl _ _)) _ _, .inl rfl⟩
        rw [hlen, e1]
        exact hst
      · have hp : pushL rs (c, x) = rs ++ [(c, x)] := by rw [pushL, if_neg h0, hlast]; simp [hx]
        rw [hp]
        have hx' : (l2 == x) = false := by simpa using hx
        clear hp hl h0 hR hlast hspl ha hlv hal hne hc0 hc1 hown hx
        go_enter Try.func43, Try.ntmps43
        go_wp2_with fail
        go_quiet (fail)
        obtain ⟨W0, hW0⟩ : ∃ W0, (w.alloc (.cells #[.int .i64 (c : Int), .int .i64 x] 74)).drewN nq = W0 := ⟨_, rfl⟩
        rw [hW0]
        have hB0 : Box W0 w.heap.size #[.int .i64 (c : Int), .int .i64 x] := by rw [← hW0]; exact Box.alloc_
        have hO0 := HO.out (.cells #[.int .i64 (c : Int), .int .i64 x] 74)
        have hO1 : W0.ownsRow base 74 2 (.slice (some ⟨g, 0, none⟩) (m + 1) cap) (m + 1) (rnCells rs) := by rw [← hW0]; exact hO0
        have hbw0 : Below w.heap.size w W0 := by rw [← hW0]; exact below_drewN ((Below.refl _ _).alloc (Nat.le_refl _) _) _
        obtain ⟨q1, z1, l1'⟩ := hB0
        have hs0 := hbw0.size
        have HBS0 := Lib.hid (fun (o : Obj) => (show base ≤ (W0.alloc o).heap.size from by simp; omega))
        clear hW0 hO0 HO HZ
        go_wp2_with (at_builtin; refine wpList_appN (.tmp 36) (.tmp 38) 65 base 74 _ 2 16 _ (m + 1) (rnCells rs) (W0.heap.size + 1) (some ⟨W0.heap.size, 0, none⟩) 1 1 _ Try.underlying65 rnInfo rfl (by decide) rfl rfl rfl rfl (own_box hO1 _) (Rd.lit rfl (Nat.lt_succ_self _)) (two_one _ _) (by omega) (by omega) (HBS0.out _) ?_; intro v1 w1 hown1 hg1 hn1 hb1)
        go_ret
        exact ⟨_, rfl, HAPP.out _ _ hown1, grown_after (hbw0.alloc hbw0.size _) hg1, hn1.after (by simp; omega)⟩
end Go.Proofs.Ytdkkfahnkenplaa

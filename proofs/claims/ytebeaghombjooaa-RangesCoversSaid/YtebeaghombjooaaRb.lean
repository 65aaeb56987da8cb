/- Layer 12: contract of ranges.push. -/
import Derived.Test.YtebeaghombjooaaRa
set_option linter.unusedVariables false
set_option linter.unusedSimpArgs false
namespace Go.Proofs.Ytebeaghombjooaa
open Go.RowKit

theorem rg_set_last (a : List Rg) (l : Rg) (x : Int) : (rgCells (a ++ [l])).set (a.length * 2 + 1) (.int .i64 x) = rgCells (a ++ [(l.1, x)]) := by
  rw [rgCells_append, rgCells_append, List.set_append, if_neg (by rw [rgCells_length]; omega), rgCells_length, show a.length * 2 + 1 - a.length * 2 = 1 by omega]
  rfl
theorem own_box {w : World} {base : Nat} {e : TypeId} {size n : Nat} {v : Value} {xs : List Value} (h : w.ownsRow base e size v n xs) (o : Obj) : (w.alloc o).ownsRow base e size v n xs := h.alloc o
theorem two_one (a b : Int) : ∀ u ∈ [Value.int .i64 a, .int .i64 b], u.oneCell' = true := by simp [Value.oneCell']
def pushR (l : List Rg) (f e : Int) : List Rg :=
  if e ≤ f then l else
    match l.getLast? with
    | some r => if r.1 + r.2 = f then l.dropLast ++ [(r.1, r.2 + (e - f))] else l ++ [(f, e - f)]
    | none => l ++ [(f, e - f)]
theorem last_split {l : List Rg} {r : Rg} (h : l.getLast? = some r) : l = l.dropLast ++ [r] := by
  have hne : l ≠ [] := by rintro rfl; simp at h
  rw [List.getLast?_eq_some_getLast hne] at h
  injection h with h
  rw [← h]
  exact (List.dropLast_concat_getLast hne).symm
theorem pushR_length (l : List Rg) (f e : Int) : l.length ≤ (pushR l f e).length ∧ (pushR l f e).length ≤ l.length + 1 := by
  unfold pushR
  split
  · omega
  · split
    · rename_i r hr
      have hne : l ≠ [] := by rintro rfl; simp at hr
      have : 0 < l.length := List.length_pos_iff.2 hne
      split <;> simp <;> omega
    · simp
/-- The list that 'push' leaves, as a row of the call's own. -/
def Pushed (base : Nat) (w : World) (v : Value) (rs : List Rg) (e : Ending) (w' : World) : Prop := ∃ v', e = .returned v' ∧ w'.ownsRow base 37 2 v' rs.length (rgCells rs) ∧ w.grownBy w' v.ownBlock ∧ OwnNext w v v'

set_option maxHeartbeats 1000000 in
theorem push_any (v : Value) (n base : Nat) (l : List Rg) (f e : Int) (w : World) (hown : w.ownsRow base 37 2 v n (rgCells l)) (hbase : base ≤ w.heap.size) (hn : n ≤ 900000) (hf : 0 ≤ f ∧ f ≤ 65536) (he : 0 ≤ e ∧ e ≤ 65536) (hb : ∀ r ∈ l, 0 ≤ r.1 ∧ r.1 ≤ 65536 ∧ 0 ≤ r.2 ∧ r.2 ≤ 65536) :
    Calls Try.prog 39 #[v, .int .i64 f, .int .i64 e] w (Pushed base w v (pushR l f e)) := by
  obtain ⟨hf1, hf2⟩ := hf
  obtain ⟨he1, he2⟩ := he
  have hl : l.length = n := by have := hown.1; rw [rgCells_length] at this; omega
  obtain ⟨A, cap, rfl, hcap, hR⟩ := own_form hown
  by_cases h0 : e ≤ f
  · have hp : pushR l f e = l := by rw [pushR, if_pos h0]
    rw [hp]
    have HL := Lib.hid hl
    clear hp hl hR hcap hb
    go_enter Try.func39, Try.ntmps39
    go_wp2
    go_ret
    exact ⟨_, rfl, by rw [HL.out]; exact hown, World.grownBy.refl _ _, .inl rfl⟩
  · have happ : ∀ (c1 : Value) (w1 : World), w1.ownsRow base 37 2 c1 (n + 1) (rgCells l ++ [.int .i64 f, .int .i64 (e - f)]) → w1.ownsRow base 37 2 c1 (l ++ [((f, e - f) : Rg)]).length (rgCells (l ++ [(f, e - f)])) := by
      intro c1 w1 h
      rw [rgCells_append, List.length_append, hl]; exact h
    have HAPP := Lib.hid happ
    clear happ
    have d0 : decide (e ≤ f) = false := by simp; omega
    have d0' : f < e := by omega
    rcases Nat.eq_zero_or_pos n with hz | hz
    · subst hz
      have hnil : l = [] := List.eq_nil_of_length_eq_zero hl
      have hp : pushR l f e = l ++ [(f, e - f)] := by rw [pushR, if_neg h0, hnil]; rfl
      rw [hp]
      have HO := Lib.hid hown
      clear hp hl h0 hR hnil hown hb
      go_enter Try.func39, Try.ntmps39
      go_wp2_with fail
      go_quiet (fail)
      obtain ⟨W0, hW0⟩ : ∃ W0, w.drewN nq = W0 := ⟨_, rfl⟩
      rw [hW0]
      have hO1 : W0.ownsRow base 37 2 (.slice A 0 cap) 0 (rgCells l) := by rw [← hW0]; exact HO.out
      have hbw0 : Below w.heap.size w W0 := by rw [← hW0]; exact below_drewN (Below.refl _ _) _
      have hs0 := hbw0.size
      have HBS0 := Lib.hid (fun (o : Obj) => (show base ≤ (W0.alloc o).heap.size from by simp; omega))
      clear hW0 HO
      go_wp2_with (at_builtin; refine wpList_appN (.tmp 44) (.tmp 50) 22 base 37 _ 2 16 _ 0 (rgCells l) (W0.heap.size + 1) (some ⟨W0.heap.size, 0, none⟩) 1 1 _ Try.underlying22 rgInfo rfl (by decide) rfl rfl rfl rfl (own_box hO1 _) (Rd.lit rfl (Nat.lt_succ_self _)) (two_one _ _) (by omega) (by omega) (HBS0.out _) ?_; intro v1 w1 hown1 hg1 hn1 hb1)
      go_ret
      exact ⟨_, rfl, HAPP.out _ _ hown1, grown_after (hbw0.alloc hbw0.size _) hg1, hn1.after (by simp; omega)⟩
    · obtain ⟨m, rfl⟩ : ∃ m, n = m + 1 := ⟨n - 1, by omega⟩
      obtain ⟨g, cap', hv, hgb, hgl⟩ := hown.form (by omega)
      injection hv with hA _ hcc
      subst hA hcc
      have hne : l ≠ [] := by rintro rfl; simp at hl
      have hlast : l.getLast? = some (l[m]'(by omega)) := by
        rw [List.getLast?_eq_getElem?]; simp [hl]
      have hspl := last_split hlast
      have hbm := hb (l[m]'(by omega)) (List.getElem_mem _)
      obtain ⟨a, ha⟩ : ∃ a, l.dropLast = a := ⟨_, rfl⟩
      obtain ⟨l1, l2, hlv⟩ : ∃ l1 l2, l[m]'(by omega) = (l1, l2) := ⟨_, _, rfl⟩
      rw [ha, hlv] at hspl
      rw [hlv] at hlast hbm
      obtain ⟨hb1, hb2, hb3, hb4⟩ := hbm
      simp only at hb1 hb2 hb3 hb4
      have hal : a.length = m := by have := congrArg List.length hspl; simp at this; omega
      obtain ⟨hc0, hc1⟩ := rgCells_get l m (by omega)
      rw [hlv] at hc0 hc1
      simp only at hc0 hc1
      have c0 : w.cell? ⟨g, m * 2, none⟩ = some (.int .i64 l1) := by rw [hown.cellAt _ (by omega)]; exact hc0
      have c1 : w.cell? ⟨g, m * 2 + 1, none⟩ = some (.int .i64 l2) := by rw [hown.cellAt _ (by omega)]; exact hc1
      have dz : ∀ i, w.frozen? ⟨g, i, none⟩ = false := fun i => hown.frozenAt i
      have f3 : IntKind.i64.wrap ((m : Int) + 1 - 1) = (m : Int) := by rw [IntWalk.i64_in _ ⟨by omega, by omega⟩]; omega
      have f4 : IntKind.i64.wrap (l1 + l2) = l1 + l2 := IntWalk.i64_in _ ⟨by omega, by omega⟩
      have f5 : IntKind.i64.wrap (e - f) = e - f := IntWalk.i64_in _ ⟨by omega, by omega⟩
      have f6 : IntKind.i64.wrap (l2 + (e - f)) = l2 + (e - f) := IntWalk.i64_in _ ⟨by omega, by omega⟩
      by_cases hx : l1 + l2 = f
      · have hp : pushR l f e = a ++ [(l1, l2 + (e - f))] := by rw [pushR, if_neg h0, hlast]; simp [ha, hx]
        rw [hp]
        have hset : (rgCells l).set (m * 2 + 1) (.int .i64 (l2 + (e - f))) = rgCells (a ++ [(l1, l2 + (e - f))]) := by
          rw [hspl, ← hal]; exact rg_set_last a (l1, l2) _
        have hx' : (l1 + l2 == f) = true := by simpa using hx
        have HSET := Lib.hid hset
        have HAL := Lib.hid hal
        have HO := Lib.hid hown
        clear hp hl h0 hR hlast hspl ha hlv hal hset hne HAPP hc0 hc1 hown hx hb
        go_enter Try.func39, Try.ntmps39
        go_wp2_with fail
        go_quiet (fail)
        go_wp2
        go_ret
        have hst := (HO.out.stored (m * 2 + 1) (.int .i64 (l2 + (e - f)))).1
        rw [HSET.out] at hst
        have hlen : (a ++ [((l1, l2 + (e - f)) : Rg)]).length = m + 1 := by simp [HAL.out]
        refine ⟨_, rfl, ?_, one_set (one_drewN (World.grownBy.refl _ _) _) _ _, .inl rfl⟩
        rw [hlen]
        exact hst
      · have hp : pushR l f e = l ++ [(f, e - f)] := by rw [pushR, if_neg h0, hlast]; simp [hx]
        rw [hp]
        have hx' : (l1 + l2 == f) = false := by simpa using hx
        have HO := Lib.hid hown
        clear hp hl h0 hR hlast hspl ha hlv hal hne hc0 hc1 hown hx hb
        go_enter Try.func39, Try.ntmps39
        go_wp2_with fail
        go_quiet (fail)
        obtain ⟨W0, hW0⟩ : ∃ W0, w.drewN nq = W0 := ⟨_, rfl⟩
        rw [hW0]
        have hO1 : W0.ownsRow base 37 2 (.slice (some ⟨g, 0, none⟩) (m + 1) cap) (m + 1) (rgCells l) := by rw [← hW0]; exact HO.out
        have hbw0 : Below w.heap.size w W0 := by rw [← hW0]; exact below_drewN (Below.refl _ _) _
        have hs0 := hbw0.size
        have HBS0 := Lib.hid (fun (o : Obj) => (show base ≤ (W0.alloc o).heap.size from by simp; omega))
        clear hW0 HO
        go_wp2_with (at_builtin; refine wpList_appN (.tmp 44) (.tmp 50) 22 base 37 _ 2 16 _ (m + 1) (rgCells l) (W0.heap.size + 1) (some ⟨W0.heap.size, 0, none⟩) 1 1 _ Try.underlying22 rgInfo rfl (by decide) rfl rfl rfl rfl (own_box hO1 _) (Rd.lit rfl (Nat.lt_succ_self _)) (two_one _ _) (by omega) (by omega) (HBS0.out _) ?_; intro v1 w1 hown1 hg1 hn1 hb1)
        go_ret
        exact ⟨_, rfl, HAPP.out _ _ hown1, grown_after (hbw0.alloc hbw0.size _) hg1, hn1.after (by simp; omega)⟩
end Go.Proofs.Ytebeaghombjooaa

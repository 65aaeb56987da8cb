/- Layer 4: contracts of package runs (over int): part, At, Count, clip. -/
import Derived.Test.YtdkkfahnkenplaaRunQ
set_option linter.unusedVariables false
set_option linter.unusedSimpArgs false
namespace Go.Proofs.Ytdkkfahnkenplaa
open Go.RowKit

theorem Rd.lit2 {w : World} {o : Obj} {size n : Nat} {cs : Array Value} {e : TypeId} {B : Nat} (hs : cs.size = n * size) (hB : w.heap.size + 1 < B) : Rd ((w.alloc o).alloc (.cells cs e)) B size (some ⟨w.heap.size + 1, 0, none⟩) n cs.toList := by
  have h := Rd.lit (w := w.alloc o) (e := e) (fz := (0, 0)) (B := B) hs (by simpa using hB)
  simpa using h
theorem box_grown {wr w1 : World} {base : Nat} {e e' : TypeId} {size n : Nat} {v : Value} {xs : List Value} {cs : Array Value} {o : Obj} (hown : wr.ownsRow base e size v n xs) (hg : ((wr.alloc (.cells cs e')).alloc o).grownBy w1 v.ownBlock) (i : Nat) : w1.cell? ⟨wr.heap.size, i, none⟩ = cs[i]? := by
  have h1 : wr.heap.size < ((wr.alloc (.cells cs e')).alloc o).heap.size := by simp; omega
  have h2 : some wr.heap.size ≠ v.ownBlock := by
    intro h
    have := (hown.lt _ h.symm).2
    omega
  rw [World.cell?_of_block (a := ⟨wr.heap.size, i, none⟩) (hg.block wr.heap.size h1 h2)]
  exact (Box.alloc' (Box.alloc_ (w := wr) (cs := cs) (e := e')) o).1 i
set_option maxHeartbeats 4000000 in
theorem part_any (rs : List (Rn Int)) (A : Option Addr) (n c B f t : Nat) (w : World) (hr : Rd w B 2 A n (rnCells rs)) (hn : n ≤ 100000) (hb : tot rs ≤ 1000000) (hf : f ≤ 1000000) (ht : t ≤ 1000000) :
    Calls Try.prog 42 #[lv A n c, .int .i64 f, .int .i64 t] w fun e w' => ∃ v, e = .returned v ∧ w'.ownsRow w.heap.size 74 2 v (partL rs f t).length (rnCells (partL rs f t)) ∧ Below w.heap.size w w' := by
  have hr := hr.fits (by decide)
  have hl := hr.rlen
  have HR := Lib.hid hr
  have HL := Lib.hid hl
  clear hr hl
  go_enter Try.func42, Try.ntmps42
  go_wp2
  go_loopw [7, 8, 15] (fun v a i wr => ∃ k : Nat, k ≤ n ∧ i = .int .i64 k ∧ a = .int .i64 (tot (rs.take k)) ∧ wr.ownsRow w.heap.size 74 2 v (partL (rs.take k) f t).length (rnCells (partL (rs.take k) f t)) ∧ Below w.heap.size w wr) (fun _ _ i _ => n - (intOf i).toNat)
  case atStart => exact ⟨0, by omega, rfl, rfl, World.ownsRow_nil _ _ _ _, (Below.refl _ _).alloc (Nat.le_refl _) _⟩
  case round =>
    obtain ⟨k, hk, rfl, rfl, hown, hbw⟩ := hrel
    have hbd := tot_take rs k
    by_cases hlt : k < n
    · obtain ⟨b, off, rfl, hbl, hk', c0, c1⟩ := rn_cells (HR.out.below hbw (Nat.le_refl _)) k hlt
      have hsn := tot_snoc rs k hk'
      have hbd2 := tot_take rs (k + 1)
      obtain ⟨r1, r2, hrv⟩ : ∃ r1 r2, rs[k] = (r1, r2) := ⟨_, _, rfl⟩
      have hps : partL (rs.take (k + 1)) f t = partL (rs.take k) f t ++ (if min t (tot (rs.take k) + r1) - max f (tot (rs.take k)) = 0 then [] else [(min t (tot (rs.take k) + r1) - max f (tot (rs.take k)), r2)]) := by
        rw [List.take_succ_eq_append_getElem hk', partL, partGo_snoc, Nat.zero_add, hrv]; rfl
      have hpl := partGo_length f t 0 (rs.take k)
      have hpl2 : (partL (rs.take k) f t).length ≤ k := Nat.le_trans hpl (List.length_take_le _ _)
      rw [hrv] at c0 c1 hsn
      rw [hsn] at hbd2
      simp only at c0 c1 hbd2 hsn
      obtain ⟨s, hs⟩ : ∃ s, tot (rs.take k) = s := ⟨_, rfl⟩
      rw [hs] at hps hsn hbd hbd2 ⊢
      have HPS := Lib.hid hps
      have HSN := Lib.hid hsn
      clear hps hsn hpl hrv hs
      rcases (show (t ≤ s + r1 ∧ f < s) ∨ (t ≤ s + r1 ∧ s ≤ f) ∨ (s + r1 < t ∧ f < s) ∨ (s + r1 < t ∧ s ≤ f) by omega) with ⟨h1, h2⟩ | ⟨h1, h2⟩ | ⟨h1, h2⟩ | ⟨h1, h2⟩
      · by_cases hp : s < t
        · have hnx : partL (rs.take (k + 1)) f t = partL (rs.take k) f t ++ [(t - s, r2)] := by
            rw [HPS.out, if_neg (by omega), show min t (s + r1) - max f s = t - s by omega]
          have hrow : ∀ (v1 : Value) (w1 : World), w1.ownsRow w.heap.size 74 2 v1 ((partL (rs.take k) f t).length + 1) (rnCells (partL (rs.take k) f t) ++ [.int .i64 ((t : Int) - (s : Int)), .int .i64 r2]) → w1.ownsRow w.heap.size 74 2 v1 (partL (rs.take (k + 1)) f t).length (rnCells (partL (rs.take (k + 1)) f t)) := by
            intro v1 w1 h
            rw [hnx, rnCells_append, List.length_append]
            have e : rnCells [((t - s, r2) : Rn Int)] = [.int .i64 ((t : Int) - (s : Int)), .int .i64 r2] := by simp [rnCells, rnRow]; omega
            rw [e]; exact h
          have HROW := Lib.hid hrow
          have hsz := hbw.size
          have HC9 := Lib.hid (fun (o2 : Obj) (w1 : World) (hg : ((wr.alloc (.cells #[.int .i64 (r1 : Int), .int .i64 r2] 74)).alloc o2).grownBy w1 u7.ownBlock) => box_grown (o := o2) hown hg 0)
          have HBS := Lib.hid (fun (o1 o2 : Obj) => (show w.heap.size ≤ ((wr.alloc o1).alloc o2).heap.size from by simp; omega))
          clear hnx hrow HPS
          go_wp2_with (at_builtin; refine wpList_appR (.tmp 31) (.tmp 36) 65 w.heap.size 74 _ 2 16 _ (partL (rs.take k) f t).length (rnCells (partL (rs.take k) f t)) (wr.heap.size + 2) (some ⟨wr.heap.size + 1, 0, none⟩) 1 1 _ Try.underlying65 rnInfo rfl (by decide) rfl rfl rfl rfl ((hown.alloc _).alloc _) (Rd.lit2 rfl (by omega)) (two_one _ _) (by omega) (by omega) (HBS.out _ _) ?_; intro v1 w1 hown1 hg1 hb1; have hc9 : w1.cell? ⟨wr.heap.size, 0, none⟩ = some (.int .i64 (r1 : Int)) := HC9.out _ _ hg1)
          exact ⟨⟨k + 1, by omega, by go_num, by rw [HSN.out]; go_num, HROW.out _ _ hown1, ((hbw.alloc hsz _).alloc (by simp; omega) _).trans hb1⟩, by simp [intOf]; omega⟩
        · have hnx : partL (rs.take (k + 1)) f t = partL (rs.take k) f t := by
            rw [HPS.out, if_pos (by omega), List.append_nil]
          have HNX := Lib.hid hnx
          clear hnx HPS
          go_wp2
          exact ⟨⟨k + 1, by omega, by go_num, by rw [HSN.out]; go_num, by rw [HNX.out]; exact own_box hown _, hbw.alloc hbw.size _⟩, by simp [intOf]; omega⟩
      · by_cases hp : f < t
        · have hnx : partL (rs.take (k + 1)) f t = partL (rs.take k) f t ++ [(t - f, r2)] := by
            rw [HPS.out, if_neg (by omega), show min t (s + r1) - max f s = t - f by omega]
          have hrow : ∀ (v1 : Value) (w1 : World), w1.ownsRow w.heap.size 74 2 v1 ((partL (rs.take k) f t).length + 1) (rnCells (partL (rs.take k) f t) ++ [.int .i64 ((t : Int) - (f : Int)), .int .i64 r2]) → w1.ownsRow w.heap.size 74 2 v1 (partL (rs.take (k + 1)) f t).length (rnCells (partL (rs.take (k + 1)) f t)) := by
            intro v1 w1 h
            rw [hnx, rnCells_append, List.length_append]
            have e : rnCells [((t - f, r2) : Rn Int)] = [.int .i64 ((t : Int) - (f : Int)), .int .i64 r2] := by simp [rnCells, rnRow]; omega
            rw [e]; exact h
          have HROW := Lib.hid hrow
          have hsz := hbw.size
          have HC9 := Lib.hid (fun (o2 : Obj) (w1 : World) (hg : ((wr.alloc (.cells #[.int .i64 (r1 : Int), .int .i64 r2] 74)).alloc o2).grownBy w1 u7.ownBlock) => box_grown (o := o2) hown hg 0)
          have HBS := Lib.hid (fun (o1 o2 : Obj) => (show w.heap.size ≤ ((wr.alloc o1).alloc o2).heap.size from by simp; omega))
          clear hnx hrow HPS
          go_wp2_with (at_builtin; refine wpList_appR (.tmp 31) (.tmp 36) 65 w.heap.size 74 _ 2 16 _ (partL (rs.take k) f t).length (rnCells (partL (rs.take k) f t)) (wr.heap.size + 2) (some ⟨wr.heap.size + 1, 0, none⟩) 1 1 _ Try.underlying65 rnInfo rfl (by decide) rfl rfl rfl rfl ((hown.alloc _).alloc _) (Rd.lit2 rfl (by omega)) (two_one _ _) (by omega) (by omega) (HBS.out _ _) ?_; intro v1 w1 hown1 hg1 hb1; have hc9 : w1.cell? ⟨wr.heap.size, 0, none⟩ = some (.int .i64 (r1 : Int)) := HC9.out _ _ hg1)
          exact ⟨⟨k + 1, by omega, by go_num, by rw [HSN.out]; go_num, HROW.out _ _ hown1, ((hbw.alloc hsz _).alloc (by simp; omega) _).trans hb1⟩, by simp [intOf]; omega⟩
        · have hnx : partL (rs.take (k + 1)) f t = partL (rs.take k) f t := by
            rw [HPS.out, if_pos (by omega), List.append_nil]
          have HNX := Lib.hid hnx
          clear hnx HPS
          go_wp2
          exact ⟨⟨k + 1, by omega, by go_num, by rw [HSN.out]; go_num, by rw [HNX.out]; exact own_box hown _, hbw.alloc hbw.size _⟩, by simp [intOf]; omega⟩
      · by_cases hp : 0 < r1
        · have hnx : partL (rs.take (k + 1)) f t = partL (rs.take k) f t ++ [(r1, r2)] := by
            rw [HPS.out, if_neg (by omega), show min t (s + r1) - max f s = r1 by omega]
          have hrow : ∀ (v1 : Value) (w1 : World), w1.ownsRow w.heap.size 74 2 v1 ((partL (rs.take k) f t).length + 1) (rnCells (partL (rs.take k) f t) ++ [.int .i64 ((s : Int) + (r1 : Int) - (s : Int)), .int .i64 r2]) → w1.ownsRow w.heap.size 74 2 v1 (partL (rs.take (k + 1)) f t).length (rnCells (partL (rs.take (k + 1)) f t)) := by
            intro v1 w1 h
            rw [hnx, rnCells_append, List.length_append]
            have e : rnCells [((r1, r2) : Rn Int)] = [.int .i64 ((s : Int) + (r1 : Int) - (s : Int)), .int .i64 r2] := by simp [rnCells, rnRow]; omega
            rw [e]; exact h
          have HROW := Lib.hid hrow
          have hsz := hbw.size
          have HC9 := Lib.hid (fun (o2 : Obj) (w1 : World) (hg : ((wr.alloc (.cells #[.int .i64 (r1 : Int), .int .i64 r2] 74)).alloc o2).grownBy w1 u7.ownBlock) => box_grown (o := o2) hown hg 0)
          have HBS := Lib.hid (fun (o1 o2 : Obj) => (show w.heap.size ≤ ((wr.alloc o1).alloc o2).heap.size from by simp; omega))
          clear hnx hrow HPS
          go_wp2_with (at_builtin; refine wpList_appR (.tmp 31) (.tmp 36) 65 w.heap.size 74 _ 2 16 _ (partL (rs.take k) f t).length (rnCells (partL (rs.take k) f t)) (wr.heap.size + 2) (some ⟨wr.heap.size + 1, 0, none⟩) 1 1 _ Try.underlying65 rnInfo rfl (by decide) rfl rfl rfl rfl ((hown.alloc _).alloc _) (Rd.lit2 rfl (by omega)) (two_one _ _) (by omega) (by omega) (HBS.out _ _) ?_; intro v1 w1 hown1 hg1 hb1; have hc9 : w1.cell? ⟨wr.heap.size, 0, none⟩ = some (.int .i64 (r1 : Int)) := HC9.out _ _ hg1)
          exact ⟨⟨k + 1, by omega, by go_num, by rw [HSN.out]; go_num, HROW.out _ _ hown1, ((hbw.alloc hsz _).alloc (by simp; omega) _).trans hb1⟩, by simp [intOf]; omega⟩
        · have hnx : partL (rs.take (k + 1)) f t = partL (rs.take k) f t := by
            rw [HPS.out, if_pos (by omega), List.append_nil]
          have HNX := Lib.hid hnx
          clear hnx HPS
          go_wp2
          exact ⟨⟨k + 1, by omega, by go_num, by rw [HSN.out]; go_num, by rw [HNX.out]; exact own_box hown _, hbw.alloc hbw.size _⟩, by simp [intOf]; omega⟩
      · by_cases hp : f < s + r1
        · have hnx : partL (rs.take (k + 1)) f t = partL (rs.take k) f t ++ [(s + r1 - f, r2)] := by
            rw [HPS.out, if_neg (by omega), show min t (s + r1) - max f s = s + r1 - f by omega]
          have hrow : ∀ (v1 : Value) (w1 : World), w1.ownsRow w.heap.size 74 2 v1 ((partL (rs.take k) f t).length + 1) (rnCells (partL (rs.take k) f t) ++ [.int .i64 ((s : Int) + (r1 : Int) - (f : Int)), .int .i64 r2]) → w1.ownsRow w.heap.size 74 2 v1 (partL (rs.take (k + 1)) f t).length (rnCells (partL (rs.take (k + 1)) f t)) := by
            intro v1 w1 h
            rw [hnx, rnCells_append, List.length_append]
            have e : rnCells [((s + r1 - f, r2) : Rn Int)] = [.int .i64 ((s : Int) + (r1 : Int) - (f : Int)), .int .i64 r2] := by simp [rnCells, rnRow]; omega
            rw [e]; exact h
          have HROW := Lib.hid hrow
          have hsz := hbw.size
          have HC9 := Lib.hid (fun (o2 : Obj) (w1 : World) (hg : ((wr.alloc (.cells #[.int .i64 (r1 : Int), .int .i64 r2] 74)).alloc o2).grownBy w1 u7.ownBlock) => box_grown (o := o2) hown hg 0)
          have HBS := Lib.hid (fun (o1 o2 : Obj) => (show w.heap.size ≤ ((wr.alloc o1).alloc o2).heap.size from by simp; omega))
          clear hnx hrow HPS
          go_wp2_with (at_builtin; refine wpList_appR (.tmp 31) (.tmp 36) 65 w.heap.size 74 _ 2 16 _ (partL (rs.take k) f t).length (rnCells (partL (rs.take k) f t)) (wr.heap.size + 2) (some ⟨wr.heap.size + 1, 0, none⟩) 1 1 _ Try.underlying65 rnInfo rfl (by decide) rfl rfl rfl rfl ((hown.alloc _).alloc _) (Rd.lit2 rfl (by omega)) (two_one _ _) (by omega) (by omega) (HBS.out _ _) ?_; intro v1 w1 hown1 hg1 hb1; have hc9 : w1.cell? ⟨wr.heap.size, 0, none⟩ = some (.int .i64 (r1 : Int)) := HC9.out _ _ hg1)
          exact ⟨⟨k + 1, by omega, by go_num, by rw [HSN.out]; go_num, HROW.out _ _ hown1, ((hbw.alloc hsz _).alloc (by simp; omega) _).trans hb1⟩, by simp [intOf]; omega⟩
        · have hnx : partL (rs.take (k + 1)) f t = partL (rs.take k) f t := by
            rw [HPS.out, if_pos (by omega), List.append_nil]
          have HNX := Lib.hid hnx
          clear hnx HPS
          go_wp2
          exact ⟨⟨k + 1, by omega, by go_num, by rw [HSN.out]; go_num, by rw [HNX.out]; exact own_box hown _, hbw.alloc hbw.size _⟩, by simp [intOf]; omega⟩
    · obtain rfl : k = n := by omega
      have e : rs.take k = rs := List.take_of_length_le (by rw [HL.out]; omega)
      have HE := Lib.hid e
      rw [e] at hown
      clear e
      go_wp2
      go_ret
      exact ⟨_, rfl, hown, hbw⟩
end Go.Proofs.Ytdkkfahnkenplaa

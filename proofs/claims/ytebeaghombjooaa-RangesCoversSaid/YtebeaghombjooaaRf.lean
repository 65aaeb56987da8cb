/- Layer 12: contracts of the reference's Open, Close, Of, Join, Clip (sets of flags). -/
import Derived.Test.YtebeaghombjooaaRp
import Derived.Deep.OwnRows
import Derived.OwnWalk
set_option linter.unusedVariables false
set_option linter.unusedSimpArgs false
namespace Go.Proofs.Ytebeaghombjooaa
open Go.RowKit

def flagCells (f : Nat → Bool) (N : Nat) : List Value := (List.range N).map fun i => .bool (f i)
theorem flag_len (f : Nat → Bool) (N : Nat) : (flagCells f N).length = N := by simp [flagCells]
theorem flag_get (f : Nat → Bool) (N k : Nat) (hk : k < N) : (flagCells f N)[k]? = some (.bool (f k)) := by simp [flagCells, hk]
theorem flag_congr (f g : Nat → Bool) (N : Nat) (h : ∀ i, i < N → f i = g i) : flagCells f N = flagCells g N := by
  unfold flagCells
  exact List.map_congr_left fun i hi => by rw [h i (by simpa using hi)]
theorem flag_set (f g : Nat → Bool) (N k : Nat) (b : Bool) (h : ∀ i, i < N → g i = if i = k then b else f i) : (flagCells f N).set k (.bool b) = flagCells g N := by
  apply List.ext_getElem?
  intro i
  by_cases hi : i < N
  · rw [flag_get g N i hi, h i hi, List.getElem?_set]
    by_cases e : k = i
    · subst e
      simp [flag_len, hi]
    · rw [if_neg e, flag_get f N i hi, if_neg (fun h => e h.symm)]
  · rw [List.getElem?_eq_none (by simp [flag_len]; omega), List.getElem?_eq_none (by simp [flag_len]; omega)]
theorem flag_made (N : Nat) : (madeCells (Value.cells (.bool false)) (N * 1)).toList = flagCells (fun _ => false) N := by
  rw [Nat.mul_one]
  apply List.ext_getElem?
  intro i
  by_cases hi : i < N
  · rw [flag_get _ N i hi]
    simp [madeCells, Value.cells, hi, Nat.mod_one]
  · rw [List.getElem?_eq_none (by simp [madeCells]; omega), List.getElem?_eq_none (by simp [flag_len]; omega)]
theorem boolInfo : (Try.prog.info? 4).map (fun i => (i.zero, i.size, i.bytes)) = some (some (.bool false), 1, 1) := by kernel_rfl
/-- A row of N flags of the call's own. -/
def Flags (w : World) (base g c : Nat) (f : Nat → Bool) (N : Nat) : Prop := w.ownsRow base 4 1 (.slice (some ⟨g, 0, none⟩) N c) N (flagCells f N)
theorem Flags.cell {w : World} {base g c : Nat} {f : Nat → Bool} {N : Nat} (h : Flags w base g c f N) (k : Nat) (hk : k < N) : w.cell? ⟨g, k, none⟩ = some (.bool (f k)) := by
  have := World.ownsRow.cellAt h k (by omega)
  rw [this, flag_get f N k hk]
theorem Flags.frozen {w : World} {base g c : Nat} {f : Nat → Bool} {N : Nat} (h : Flags w base g c f N) (k : Nat) : w.frozen? ⟨g, k, none⟩ = false := World.ownsRow.frozenAt h k
theorem Flags.store {w : World} {base g c : Nat} {f f' : Nat → Bool} {N : Nat} (h : Flags w base g c f N) (k : Nat) (b : Bool) (hf : ∀ i, i < N → f' i = if i = k then b else f i) : Flags (w.setCell ⟨g, k, none⟩ (.bool b)) base g c f' N := by
  have := (World.ownsRow.stored h k (.bool b)).1
  rw [flag_set f f' N k b hf] at this
  exact this
theorem Flags.below {w w' : World} {base g c : Nat} {f : Nat → Bool} {N : Nat} (h : Flags w base g c f N) (hb : Below w.heap.size w w') : Flags w' base g c f N := own_below h hb (Nat.le_refl _)
theorem Flags.congr {w : World} {base g c : Nat} {f f' : Nat → Bool} {N : Nat} (h : Flags w base g c f N) (hf : ∀ i, i < N → f i = f' i) : Flags w base g c f' N := by
  unfold Flags; rw [← flag_congr f f' N hf]; exact h
theorem Flags.base {w : World} {base g c : Nat} {f : Nat → Bool} {N : Nat} (h : Flags w base g c f N) : base ≤ g ∧ g < w.heap.size := World.ownsRow.lt h g rfl
theorem Flags.rd {w : World} {base g c : Nat} {f : Nat → Bool} {N : Nat} (h : Flags w base g c f N) : Rd w w.heap.size 1 (some ⟨g, 0, none⟩) N (flagCells f N) := Rd.of_own h
theorem Flags.drewN {w : World} {base g c : Nat} {f : Nat → Bool} {N : Nat} (h : Flags w base g c f N) (k : Nat) : Flags (w.drewN k) base g c f N := h
def openF (l : List Rg) : Nat → Bool := fun i => inL (setL l) i

set_option maxRecDepth 10000 in
set_option maxHeartbeats 4000000 in
theorem open_any (l : List Rg) (A : Option Addr) (n c B N : Nat) (w : World) (hr : Rd w B 2 A n (rgCells l)) (hn : n ≤ 4611686018427387904) (hN : N = 65536) :
    Calls Try.prog 32 #[.slice A n c] w fun e w' => (∃ g, e = .returned (.slice (some ⟨g, 0, none⟩) N N) ∧ Flags w' w.heap.size g N (openF l) N) ∧ Below w.heap.size w w' := by
  have hr := hr.fits (by decide)
  have hl := hr.glen
  obtain ⟨v, hvl⟩ : ∃ v, validL l = v := ⟨_, rfl⟩
  have HVL := Lib.hid (fun (W : World) (h : Below w.heap.size w W) => rvalid_any l A n c w.heap.size W (hr.below h (Nat.le_refl _)) hn v hvl)
  have HR := Lib.hid hr
  have HL := Lib.hid hl
  have hmem : v = true → ∀ r ∈ l, 0 ≤ r.1 ∧ r.1 < 65536 ∧ 1 ≤ r.2 ∧ r.1 + r.2 ≤ 65536 := fun h => validGo_mem 0 l (by omega) (by rw [← h, ← hvl]; rfl)
  have HM := Lib.hid hmem
  have hset : setL l = if v = true then l else [] := by rw [← hvl]; rfl
  have HS := Lib.hid hset
  have HN := Lib.hid hN
  obtain ⟨i0, hi, hz0, hz1, hz2⟩ := info_parts boolInfo
  have HI2 := Lib.hid hz2
  clear hr hl hvl hmem hset hN hz2
  go_enter Try.func32, Try.ntmps32
  go_wp2_with (at_make; refine wpList_make_full _ rfl _ _ 46 rfl w.heap.size 4 i0 (.bool false) 1 Try.underlying46 hi hz0 hz1 .i64 .i64 _ _ N rfl rfl (by rw [HN.out]; rfl) (by rw [HN.out]; rfl) (by rw [HI2.out, HN.out]; decide) (by rw [HN.out]; decide) (Nat.le_refl _) ?_; intro w1 hown1 hg1)
  rw [flag_made] at hown1
  have hF1 : Flags w1 w.heap.size w.heap.size N (fun _ => false) N := hown1
  have hb1 : Below w.heap.size w w1 := (Below.refl _ w).grown hg1 (Nat.le_refl _) (fun k hk => by cases hk)
  clear hown1 hg1 hi hz0 hz1 HI2
  go_wp2_with fail
  go_loopw [4, 5] (fun i _ wr => ∃ (k : Nat), k ≤ n ∧ i = .int .i64 k ∧ (v = true ∨ k = 0) ∧ Flags wr w.heap.size w.heap.size N (fun i => (l.take k).any (inR i)) N ∧ Below w.heap.size w wr) (fun i _ _ => n - (intOf i).toNat)
  case atStart => exact ⟨0, by omega, rfl, .inr rfl, hF1, hb1⟩
  case round =>
    obtain ⟨k, hk, rfl, hor, hF, hbw⟩ := hrel
    by_cases hlt : k < n
    · have HB := Lib.hid hbw
      have HOR := Lib.hid hor
      have HF := Lib.hid hF
      clear hbw hor hF hF1 hb1
      cases v
      · have hk0 : k = 0 := by rcases HOR.out with h | h; cases h; exact h
        have hz : ∀ i, i < N → (l.take k).any (inR i) = openF l i := by
          intro i _
          rw [openF, HS.out, hk0]; rfl
        have HZ := Lib.hid hz
        have HK0 := Lib.hid hk0
        clear hk0 hz
        go_wp2_with fail
        refine (HVL.out _ HB.out).mono ?_
        rintro e w2 ⟨rfl, hb2⟩
        go_wp2
        go_ret
        exact ⟨⟨_, rfl, (HF.out.below hb2).congr HZ.out⟩, ext_trans HB.out hb2⟩
      · go_wp2_with fail
        refine (HVL.out _ HB.out).mono ?_
        rintro e w2 ⟨rfl, hb2⟩
        have hbw := ext_trans HB.out hb2
        obtain ⟨b, off, rfl, hbl, hk', c0, c1⟩ := rg_cells HR.out k hlt
        have hm := HM.out (by trivial) l[k] (List.getElem_mem _)
        have hst := fun i : Nat => any_step l k hk' (inR i)
        obtain ⟨⟨r1, r2⟩, hrv⟩ : ∃ r, l[k] = r := ⟨_, rfl⟩
        rw [hrv] at c0 c1 hst hm
        simp only at c0 c1 hm
        obtain ⟨m1, m2, m3, m4⟩ := hm
        obtain ⟨p, rfl⟩ : ∃ p : Nat, r1 = p := ⟨r1.toNat, by omega⟩
        obtain ⟨d, rfl⟩ : ∃ d : Nat, r2 = d := ⟨r2.toNat, by omega⟩
        have d0 : w2.cell? ⟨b, off + k * 2, none⟩ = some (.int .i64 (p : Int)) := (hbw.cell (p := ⟨b, off + k * 2, none⟩) hbl).trans c0
        have HST := Lib.hid hst
        have HBW := Lib.hid hbw
        have hd0 : ∀ i : Nat, decide (p ≤ i ∧ i < p) = false := fun i => by simp only [decide_eq_false_iff_not]; omega
        have hF3 : Flags w2 w.heap.size w.heap.size N (fun i => (l.take k).any (inR i) || decide (p ≤ i ∧ i < p)) N := (HF.out.below hb2).congr (fun i _ => by simp only [hd0, Bool.or_false])
        have HF3 := Lib.hid hF3
        have C0 := Lib.hid c0
        have C1 := Lib.hid c1
        clear hrv hst hbw hb2 HVL HF HB c0 c1 hd0 hF3
        go_wp2_with fail
        go_loopw [5] (fun a wq => ∃ (q : Nat), p ≤ q ∧ q ≤ p + d ∧ a = .int .i64 q ∧ Flags wq w.heap.size w.heap.size N (fun i => (l.take k).any (inR i) || decide (p ≤ i ∧ i < q)) N ∧ Below w.heap.size w wq) (fun a _ => p + d - (intOf a).toNat)
        case atStart => exact ⟨p, by omega, by omega, rfl, HF3.out, HBW.out⟩
        case round =>
          obtain ⟨q, hq1, hq2, rfl, hFq, hbq⟩ := hrel
          have e0 : wr.cell? ⟨b, off + k * 2, none⟩ = some (.int .i64 (p : Int)) := (hbq.cell (p := ⟨b, off + k * 2, none⟩) hbl).trans C0.out
          have e1 : wr.cell? ⟨b, off + k * 2 + 1, none⟩ = some (.int .i64 (d : Int)) := (hbq.cell (p := ⟨b, off + k * 2 + 1, none⟩) hbl).trans C1.out
          have HBQ := Lib.hid hbq
          have HFQ := Lib.hid hFq
          clear d0 hFq hbq
          by_cases hqd : q < p + d
          · have hqN : q < N := by rw [HN.out]; omega
            have hc := HFQ.out.cell q hqN
            obtain ⟨y, hy⟩ : ∃ y, ((l.take k).any (inR q) || decide (p ≤ q ∧ q < q)) = y := ⟨_, rfl⟩
            rw [hy] at hc
            have hf := HFQ.out.frozen q
            have hdd : decide ((q : Int) < (p : Int) + (d : Int)) = true := by simp only [decide_eq_true_eq]; omega
            clear hy
            go_wp2_with fail
            go_quiet (fail)
            go_wp2
            refine ⟨⟨q + 1, by omega, by omega, by go_num, ?_, ?_⟩, by simp [intOf]; omega⟩
            · refine (HFQ.out.drewN _).store q true fun i hi => ?_
              by_cases e : i = q
              · subst e
                have : decide (p ≤ i ∧ i < i + 1) = true := by simp only [decide_eq_true_eq]; omega
                rw [if_pos rfl, this, Bool.or_true]
              · rw [if_neg e]
                congr 1
                simp only [decide_eq_decide]
                omega
            · exact (below_drewN HBQ.out _).setCell (p := ⟨w.heap.size, q, none⟩) (Nat.le_refl _) _
          · have hdd : decide ((q : Int) < (p : Int) + (d : Int)) = false := by simp only [decide_eq_false_iff_not]; omega
            have hqe : q = p + d := by omega
            have HQE := Lib.hid hqe
            clear hqe hqd
            go_wp2_with fail
            go_quiet (fail)
            go_wp2
            refine ⟨⟨k + 1, by omega, by go_num, .inl (by trivial), (HFQ.out.drewN _).congr (fun i _ => ?_), below_drewN HBQ.out _⟩, by simp [intOf]; omega⟩
            rw [HST.out i]
            congr 1
            rw [inR, decide_eq_decide, HQE.out]
            simp only
            omega
    · obtain rfl : k = n := by omega
      have hz : ∀ i, i < N → (l.take k).any (inR i) = openF l i := by
        intro i _
        have e : l.take k = l := List.take_of_length_le (by rw [HL.out]; omega)
        rw [openF, HS.out]
        rcases hor with h | h
        · rw [if_pos h, e]; rfl
        · subst h
          have : l = [] := List.eq_nil_of_length_eq_zero HL.out
          subst this
          split <;> rfl
      have HZ := Lib.hid hz
      clear hz hor hF1 hb1
      go_wp2
      go_ret
      exact ⟨⟨_, rfl, hF.congr HZ.out⟩, hbw⟩
end Go.Proofs.Ytebeaghombjooaa

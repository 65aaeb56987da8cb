/- The reference of the receiver: Events and Silence. -/
import Derived.Test.YthgapllfjllnfaaRcvP
import Derived.Test.YthgapllfjllnfaaRegS
set_option linter.unusedVariables false
set_option linter.unusedSimpArgs false
namespace Go.Proofs.Ythgapllfjllnfaa
open Go.RowKit

def evErr (b p : Int) (evs : List Ev) : Int := if validB b p = false then 5 else if evs.all inR = false then 3 else if ordE 0 evs = false then 7 else 0
theorem ev_two {w : World} {B n : Nat} {A : Option Addr} {l : List Ev} (h : Rd w B 3 A n (evCells l)) (j : Nat) (hj : j + 1 < n) (x y : Ev) (hx : l[j]? = some x) (hy : l[j + 1]? = some y) :
    ∃ b off, A = some ⟨b, off, none⟩ ∧ b < B ∧ w.cell? ⟨b, off + j * 3, none⟩ = some (.int .i64 x.at_) ∧ w.cell? ⟨b, off + (j + 1) * 3, none⟩ = some (.int .i64 y.at_) := by
  obtain ⟨b, off, rfl, hb, hk, c0, _, _⟩ := ev_at h j (by omega)
  obtain ⟨b2, off2, e, _, hk2, c1, _, _⟩ := ev_at h (j + 1) hj
  injection e with e
  injection e with e1 e2
  subst e1 e2
  rw [List.getElem?_eq_getElem hk] at hx
  rw [List.getElem?_eq_getElem hk2] at hy
  injection hx with hx
  injection hy with hy
  subst hx hy
  exact ⟨b, off, rfl, hb, c0, c1⟩
set_option maxRecDepth 100000 in
set_option maxHeartbeats 8000000 in
theorem rsil_eq (b p ch : Int) (hc : charZ b p = ch) (evs : List Ev) (A : Option Addr) (n c B i j : Nat) (x y : Ev) (r : Int) (w : World) (hr : Rd w B 3 A n (evCells evs)) (hB : B ≤ w.heap.size) (hij : i = j + 1) (hi : i < n) (hn : n ≤ 1000)
    (hx : evs[j]? = some x) (hy : evs[j + 1]? = some y) (hxr : inR x = true) (hyr : inR y = true) (hres : silR ch x y = r) :
    Calls Try.prog 27 #[.agg #[.int .i64 b, .int .i64 p], .slice A n c, .int .i64 (i : Int)] w fun e w' => e = .returned (.int .i64 r) ∧ Below w.heap.size w w' := by
  obtain ⟨b0, off, rfl, hb0, c0, c1⟩ := ev_two hr j (by omega) x y hx hy
  obtain ⟨hch1, hch2⟩ := char_bd b p
  rw [hc] at hch1 hch2
  have HC := Lib.hid (fun w => rchar_eq b p ch hc w)
  simp only [inR, decide_eq_true_eq] at hxr hyr
  obtain ⟨xa, xv, xf⟩ := x
  obtain ⟨ya, yv, yf⟩ := y
  dsimp only at c0 c1 hxr hyr
  rw [← hij] at c1
  have hb0' : b0 < w.heap.size := by omega
  have k0 : IntKind.i64.wrap ((i : Int) - 1) = (j : Int) := by rw [hij, show ((j + 1 : Nat) : Int) - 1 = (j : Int) by omega]; exact IntWalk.i64_in _ ⟨by omega, by omega⟩
  have k1 : IntKind.i64.wrap (ya - ch) = ya - ch := IntWalk.i64_in _ ⟨by omega, by omega⟩
  have k2 : IntKind.i64.wrap (ya - ch - xa) = ya - ch - xa := IntWalk.i64_in _ ⟨by omega, by omega⟩
  have hjn : j < n := by omega
  have HRES := Lib.hid (show (if 0 < ya - ch - xa then ya - ch - xa else 0) = r by rw [← hres]; simp only [silR]; split <;> omega)
  have HBox := Lib.hid (Box.alloc_ (w := w) (cs := #[.int .i64 b, .int .i64 p]) (e := 23))
  have HB0 := Lib.hid (show Below w.heap.size w (w.alloc (.cells #[.int .i64 b, .int .i64 p] 23)) from (Below.refl _ _).alloc (Nat.le_refl _) _)
  obtain ⟨g, hg⟩ : ∃ g, w.heap.size = g := ⟨_, rfl⟩
  have HG := Lib.hid (fun (W : World) (h : Below (w.alloc (.cells #[.int .i64 b, .int .i64 p] 23)).heap.size (w.alloc (.cells #[.int .i64 b, .int .i64 p] 23)) W) => show Below g w W from by rw [← hg]; exact ext_trans HB0.out h)
  have HF := Lib.hid (fun (W : World) (h : Below (w.alloc (.cells #[.int .i64 b, .int .i64 p] 23)).heap.size (w.alloc (.cells #[.int .i64 b, .int .i64 p] 23)) W) =>
    show (W.cell? ⟨g, 0, none⟩ = some (.int .i64 b) ∧ W.cell? ⟨g, 1, none⟩ = some (.int .i64 p) ∧ W.cell? ⟨b0, off + j * 3, none⟩ = some (.int .i64 xa) ∧ W.cell? ⟨b0, off + i * 3, none⟩ = some (.int .i64 ya)) from by
    have hb := ext_trans HB0.out h
    have hx := HBox.out.below h
    rw [hg] at hx
    exact ⟨hx.1 0, hx.1 1, (hb.cell (p := ⟨b0, off + j * 3, none⟩) hb0').trans c0, (hb.cell (p := ⟨b0, off + i * 3, none⟩) hb0').trans c1⟩)
  clear hr hB hx hy hres hc hxr hyr hij
  go_enter Try.func27, Try.ntmps27
  go_upto_region 1 with fail
  have hbc0 : Below (w.alloc (.cells #[.int .i64 b, .int .i64 p] 23)).heap.size (w.alloc (.cells #[.int .i64 b, .int .i64 p] 23)) (w.alloc (.cells #[.int .i64 b, .int .i64 p] 23)).drew := below_drew (Below.refl _ _)
  have hS0 := HF.out _ hbc0
  try rw [hg]
  refine rgs_start (fun w' => w'.cell? ⟨g, 0, none⟩ = some (.int .i64 b) ∧ w'.cell? ⟨g, 1, none⟩ = some (.int .i64 p) ∧ w'.cell? ⟨b0, off + j * 3, none⟩ = some (.int .i64 xa) ∧ w'.cell? ⟨b0, off + i * 3, none⟩ = some (.int .i64 ya)) (by kernel_rfl) ?_
  refine rgs_t (v := ?_) (some 7) 0 (by kernel_rfl) rfl rfl (by assumption) (.inl ⟨by rfl, fun w' hw => ?_⟩) ?_
  rotate_left
  · obtain ⟨q1, q2, q3⟩ := hw; go_simp <;> with_reducible rfl
  try simp only [Act.put, List.setIfInBounds_toArray, List.set_cons_zero, List.set_cons_succ]
  refine rgs_t (v := ?_) (some 8) 1 (by kernel_rfl) rfl rfl (by assumption) (.inl ⟨by rfl, fun w' hw => ?_⟩) ?_
  rotate_left
  · obtain ⟨q1, q2, q3⟩ := hw; go_simp <;> with_reducible rfl
  try simp only [Act.put, List.setIfInBounds_toArray, List.set_cons_zero, List.set_cons_succ]
  refine rgs_t (v := ?_) (some 9) 2 (by kernel_rfl) rfl rfl (by assumption) (.inl ⟨by rfl, fun w' hw => ?_⟩) ?_
  rotate_left
  · obtain ⟨q1, q2, q3⟩ := hw; go_simp <;> with_reducible rfl
  try simp only [Act.put, List.setIfInBounds_toArray, List.set_cons_zero, List.set_cons_succ]
  refine rgs_t (v := ?_) (some 10) 3 (by kernel_rfl) rfl rfl (by assumption) (.inl ⟨by rfl, fun w' hw => ?_⟩) ?_
  rotate_left
  · obtain ⟨q1, q2, q3⟩ := hw; go_simp <;> with_reducible rfl
  try simp only [Act.put, List.setIfInBounds_toArray, List.set_cons_zero, List.set_cons_succ]
  refine rgs_t (v := ?_) (some 11) 4 (by kernel_rfl) rfl rfl (by assumption) (.inl ⟨by rfl, fun w' hw => ?_⟩) ?_
  rotate_left
  · obtain ⟨q1, q2, q3⟩ := hw; go_simp <;> with_reducible rfl
  try simp only [Act.put, List.setIfInBounds_toArray, List.set_cons_zero, List.set_cons_succ]
  refine rgs_t (v := ?_) (some 12) 5 (by kernel_rfl) rfl rfl (by assumption) (.inl ⟨by rfl, fun w' hw => ?_⟩) ?_
  rotate_left
  · obtain ⟨q1, q2, q3⟩ := hw; go_simp <;> with_reducible rfl
  try simp only [Act.put, List.setIfInBounds_toArray, List.set_cons_zero, List.set_cons_succ]
  refine rgs_t (v := ?_) (some 15) 8 (by kernel_rfl) rfl rfl (by assumption) (.inl ⟨by rfl, fun w' hw => ?_⟩) ?_
  rotate_left
  · obtain ⟨q1, q2, q3⟩ := hw; go_simp <;> with_reducible rfl
  try simp only [Act.put, List.setIfInBounds_toArray, List.set_cons_zero, List.set_cons_succ]
  refine rgs_t (v := ?_) (some 16) 9 (by kernel_rfl) rfl rfl (by assumption) (.inl ⟨by rfl, fun w' hw => ?_⟩) ?_
  rotate_left
  · obtain ⟨q1, q2, q3⟩ := hw; go_simp <;> with_reducible rfl
  try simp only [Act.put, List.setIfInBounds_toArray, List.set_cons_zero, List.set_cons_succ]
  refine rgs_t (v := ?_) (some 17) 10 (by kernel_rfl) rfl rfl (by assumption) (.inl ⟨by rfl, fun w' hw => ?_⟩) ?_
  rotate_left
  · obtain ⟨q1, q2, q3⟩ := hw; go_simp <;> with_reducible rfl
  try simp only [Act.put, List.setIfInBounds_toArray, List.set_cons_zero, List.set_cons_succ]
  refine rgs_t (v := ?_) (some 18) 11 (by kernel_rfl) rfl rfl (by assumption) (.inl ⟨by rfl, fun w' hw => ?_⟩) ?_
  rotate_left
  · obtain ⟨q1, q2, q3⟩ := hw; go_simp <;> with_reducible rfl
  try simp only [Act.put, List.setIfInBounds_toArray, List.set_cons_zero, List.set_cons_succ]
  refine rgs_t (v := ?_) (some 19) 12 (by kernel_rfl) rfl rfl (by assumption) (.inl ⟨by rfl, fun w' hw => ?_⟩) ?_
  rotate_left
  · obtain ⟨q1, q2, q3⟩ := hw; go_simp <;> with_reducible rfl
  try simp only [Act.put, List.setIfInBounds_toArray, List.set_cons_zero, List.set_cons_succ]
  refine rgs_t (v := ?_) (some 20) 13 (by kernel_rfl) rfl rfl (by assumption) (.inl ⟨by rfl, fun w' hw => ?_⟩) ?_
  rotate_left
  · obtain ⟨q1, q2, q3⟩ := hw; go_simp <;> with_reducible rfl
  try simp only [Act.put, List.setIfInBounds_toArray, List.set_cons_zero, List.set_cons_succ]
  refine rgs_c 6 (by kernel_rfl) rfl (by rfl) (fun K hK => ?_)
  go_simp
  refine (HC.out _).mono ?_
  rintro e x5 ⟨rfl, hb5⟩
  have hbc5 := ext_trans hbc0 hb5
  have hS5 := HF.out _ hbc5
  refine hK _ _ hS5 ?_
  clear hK K
  try simp only [Act.put, List.setIfInBounds_toArray, List.set_cons_zero, List.set_cons_succ]
  refine rgs_t (v := ?_) (some 14) 7 (by kernel_rfl) rfl rfl (by assumption) (.inl ⟨by rfl, fun w' hw => ?_⟩) ?_
  rotate_left
  · obtain ⟨q1, q2, q3⟩ := hw; go_simp <;> with_reducible rfl
  try simp only [Act.put, List.setIfInBounds_toArray, List.set_cons_zero, List.set_cons_succ]
  refine rgs_t (v := ?_) (some 21) 14 (by kernel_rfl) rfl rfl (by assumption) (.inl ⟨by rfl, fun w' hw => ?_⟩) ?_
  rotate_left
  · obtain ⟨q1, q2, q3⟩ := hw; go_simp <;> with_reducible rfl
  try simp only [Act.put, List.setIfInBounds_toArray, List.set_cons_zero, List.set_cons_succ]
  refine rgs_t (v := ?_) (some 22) 15 (by kernel_rfl) rfl rfl (by assumption) (.inl ⟨by rfl, fun w' hw => ?_⟩) ?_
  rotate_left
  · obtain ⟨q1, q2, q3⟩ := hw; go_simp <;> with_reducible rfl
  try simp only [Act.put, List.setIfInBounds_toArray, List.set_cons_zero, List.set_cons_succ]
  refine rgs_t (v := ?_) (some 6) 16 (by kernel_rfl) rfl rfl (by assumption) (.inl ⟨by rfl, fun w' hw => ?_⟩) ?_
  rotate_left
  · obtain ⟨q1, q2, q3⟩ := hw; go_simp <;> with_reducible rfl
  try simp only [Act.put, List.setIfInBounds_toArray, List.set_cons_zero, List.set_cons_succ]
  refine rgs_d (by kernel_rfl) ?_
  go_wp2
  all_goals
    go_ret
    refine ⟨?_, HG.out _ hbc5⟩
    have hres := HRES.out
    first
    | (have hz : ya - ch - xa = r := by split at hres <;> omega
       rw [← hz]; rfl)
    | (have hz : 0 = r := by split at hres <;> omega
       rw [← hz]; rfl)
set_option maxRecDepth 100000 in
set_option maxHeartbeats 8000000 in
theorem revents_any (b p : Int) (evs : List Ev) (r : Int) (hres : evErr b p evs = r) (A : Option Addr) (n c B : Nat) (w : World) (hr : Rd w B 3 A n (evCells evs)) (hB : B ≤ w.heap.size) (hn : n ≤ 1000) :
    Calls Try.prog 12 #[.agg #[.int .i64 b, .int .i64 p], .slice A n c] w fun e w' => e = .returned (.int .i64 r) ∧ Below w.heap.size w w' := by
  obtain ⟨v, hv⟩ : ∃ v, validB b p = v := ⟨_, rfl⟩
  have HV := Lib.hid (fun w => refValid_any b p v hv w)
  have hb0 : Below w.heap.size w (w.alloc (.cells #[.int .i64 b, .int .i64 p] 23)) := (Below.refl _ _).alloc (Nat.le_refl _) _
  have HB0 := Lib.hid hb0
  have HR := Lib.hid hr
  have HBB := Lib.hid hB
  have HEL := Lib.hid hr.elen
  unfold evErr at hres
  rw [hv] at hres
  clear hr hB hv hb0
  cases v
  · rw [if_pos rfl] at hres
    subst hres
    go_enter Try.func12, Try.ntmps12
    go_wp2_with fail
    refine (HV.out _).mono ?_
    rintro e w1 ⟨rfl, hb1⟩
    have HB1 := Lib.hid (ext_trans HB0.out hb1)
    clear hb1
    go_wp2
    go_ret
    exact ⟨rfl, HB1.out⟩
  · rw [if_neg (by decide)] at hres
    have HRES := Lib.hid hres
    clear hres
    go_enter Try.func12, Try.ntmps12
    go_wp2_with fail
    refine (HV.out _).mono ?_
    rintro e w1 ⟨rfl, hb1⟩
    have HB1 := Lib.hid (ext_trans HB0.out hb1)
    have HR1 := Lib.hid (HR.out.below HB1.out HBB.out)
    clear hb1
    go_wp2_with fail
    go_loopw [5] (fun i x => ∃ k : Nat, k ≤ n ∧ i = .int .i64 k ∧ (evs.take k).all inR = true ∧ x = w1) (fun i _ => n - (intOf i).toNat)
    case atStart => exact ⟨0, by omega, rfl, by simp, rfl⟩
    case round =>
      obtain ⟨k, hk, rfl, hall, rfl⟩ := hrel
      have HALL := Lib.hid hall
      clear hall
      by_cases hlt : k < n
      · obtain ⟨b0, off, rfl, hbl, hk', c0, c1, c2⟩ := ev_at HR1.out k hlt
        have hsn := all_snoc evs k hk'
        have hmem : inR evs[k] = false → evs.all inR = false := fun h => by
          rw [Bool.eq_false_iff]
          intro ha
          rw [List.all_eq_true] at ha
          rw [ha _ (List.getElem_mem hk')] at h
          cases h
        obtain ⟨ev, hev⟩ : ∃ ev, evs[k] = ev := ⟨_, rfl⟩
        rw [hev] at c0 c1 c2 hsn hmem
        obtain ⟨at_, val, fl⟩ := ev
        dsimp only at c0 c1 c2
        have HSN := Lib.hid hsn
        have HMEM := Lib.hid hmem
        clear hev hsn hmem
        by_cases a1 : at_ < 0
        · have d1 : decide (at_ < 0) = true := by simpa using a1
          have HF := Lib.hid (HMEM.out (by simp [inR]; omega))
          clear a1
          go_wp2
          go_ret
          exact ⟨by rw [← HRES.out, if_pos HF.out]; rfl, HB1.out⟩
        · have d1 : decide (at_ < 0) = false := by simpa using a1
          by_cases a2 : 1152921504606846976 < at_
          · have d2 : decide (1152921504606846976 < at_) = true := by simpa using a2
            have HF := Lib.hid (HMEM.out (by simp [inR]; omega))
            clear a1 a2
            go_wp2
            go_ret
            exact ⟨by rw [← HRES.out, if_pos HF.out]; rfl, HB1.out⟩
          · have d2 : decide (1152921504606846976 < at_) = false := by simpa using a2
            have HI := Lib.hid (show inR ⟨at_, val, fl⟩ = true by simp [inR]; omega)
            clear a1 a2
            go_wp2_with fail
            go_roundw
            case rel => exact ⟨k + 1, by omega, by go_num, by rw [HSN.out, HALL.out, HI.out]; rfl, by trivial⟩
            case measure => simp [intOf]; omega
      · obtain rfl : k = n := by omega
        have hall := HALL.out
        rw [List.take_of_length_le (by rw [HEL.out]; exact Nat.le_refl _)] at hall
        have hres := HRES.out
        rw [if_neg (by rw [hall]; decide)] at hres
        have HRES2 := Lib.hid hres
        have HA := Lib.hid hall
        clear hall hres HALL HRES hk hlt
        go_wp2_with fail
        go_loopw [6] (fun i x => ∃ m : Nat, (m ≤ k ∨ m = 1) ∧ 1 ≤ m ∧ i = .int .i64 m ∧ ordE 0 (evs.take m) = true ∧ Below w.heap.size w x) (fun i _ => k - (intOf i).toNat)
        case atStart =>
          refine ⟨1, .inr rfl, Nat.le_refl _, rfl, ?_, HB1.out⟩
          rcases evs with _ | ⟨e, t⟩
          · rfl
          · have h := HA.out
            simp only [List.all_cons, Bool.and_eq_true, inR, decide_eq_true_eq] at h
            simpa [ordE] using h.1.1
        case round =>
          obtain ⟨m, hm, hm1, rfl, hord, hbr⟩ := hrel
          have HORD := Lib.hid hord
          have HBR := Lib.hid hbr
          clear hord hbr
          by_cases hlt : m < k
          · obtain ⟨j, hj⟩ : ∃ j, m = j + 1 := ⟨m - 1, by omega⟩
            have hlen := HEL.out
            have hj1 : j < evs.length := by omega
            have hj2 : j + 1 < evs.length := by omega
            obtain ⟨b0, off, rfl, hbl, c0, c1⟩ := ev_two (HR.out.below HBR.out HBB.out) j (by omega) evs[j] evs[j + 1] (List.getElem?_eq_getElem hj1) (List.getElem?_eq_getElem hj2)
            have htk : evs.take (m + 1) = evs.take m ++ [evs[j + 1]] := by rw [hj]; exact List.take_succ_eq_append_getElem hj2
            have hla : lastE 0 (evs.take m) = evs[j].at_ := by rw [hj, List.take_succ_eq_append_getElem hj1, lastE_snoc]
            obtain ⟨x, hx⟩ : ∃ x, evs[j].at_ = x := ⟨_, rfl⟩
            obtain ⟨y, hy⟩ : ∃ y, evs[j + 1].at_ = y := ⟨_, rfl⟩
            rw [hx] at c0 hla
            rw [hy, ← hj] at c1
            have hos : ordE 0 (evs.take (m + 1)) = decide (x ≤ y) := by rw [htk, ordE_snoc, HORD.out, hla, hy]; rfl
            have HOS := Lib.hid hos
            have hjk : j < k := by omega
            have hmk : m < k := hlt
            have k0 : IntKind.i64.wrap ((m : Int) - 1) = (j : Int) := by rw [hj, show ((j + 1 : Nat) : Int) - 1 = (j : Int) by omega]; exact IntWalk.i64_in _ ⟨by omega, by omega⟩
            clear hos htk hla hx hy hj hlen hj1 hj2 hlt
            by_cases a1 : y < x
            · have d1 : decide (y < x) = true := by simpa using a1
              have HF := Lib.hid (show ordE 0 evs = false by
                rw [Bool.eq_false_iff]
                intro ha
                have h2 := ordE_take 0 evs (m + 1) ha
                rw [HOS.out] at h2
                simp at h2
                omega)
              clear a1
              go_wp2_with fail
              go_quiet (fail)
              go_wp2
              go_ret
              exact ⟨by rw [← HRES2.out, if_pos HF.out]; rfl, by first | exact HBR.out | exact below_drew HBR.out | exact below_drewN HBR.out _⟩
            · have d1 : decide (y < x) = false := by simpa using a1
              have HT := Lib.hid (show ordE 0 (evs.take (m + 1)) = true by rw [HOS.out]; simp; omega)
              clear a1
              go_wp2_with fail
              go_quiet (fail)
              go_wp2_with fail
              go_roundw
              case rel => exact ⟨m + 1, .inl (by omega), by omega, by go_num, HT.out, by first | exact HBR.out | exact below_drew HBR.out | exact below_drewN HBR.out _⟩
              case measure => simp [intOf]; omega
          · have hord := HORD.out
            rw [List.take_of_length_le (by rw [HEL.out]; omega)] at hord
            have hres := HRES2.out
            rw [if_neg (by rw [hord]; decide)] at hres
            have HZ := Lib.hid hres
            clear hord hres
            go_wp2
            go_ret
            exact ⟨by rw [← HZ.out]; rfl, HBR.out⟩
end Go.Proofs.Ythgapllfjllnfaa

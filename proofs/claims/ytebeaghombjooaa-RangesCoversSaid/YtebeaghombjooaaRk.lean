/- Layer 12: contract of ranges.combine. -/
import Derived.Test.YtebeaghombjooaaRiu
set_option linter.unusedVariables false
set_option linter.unusedSimpArgs false
namespace Go.Proofs.Ytebeaghombjooaa
open Go.RowKit

theorem Rd.lit2 {w : World} {o : Obj} {size n : Nat} {cs : Array Value} {e : TypeId} {B : Nat} (hs : cs.size = n * size) (hB : w.heap.size + 1 < B) : Rd ((w.alloc o).alloc (.cells cs e)) B size (some ⟨w.heap.size + 1, 0, none⟩) n cs.toList := by
  have h := Rd.lit (w := w.alloc o) (e := e) (fz := (0, 0)) (B := B) hs (by simpa using hB)
  simpa using h
def cutsTo (a b : List Rg) (j : Nat) : List Int := [0, 65536] ++ (if 0 < j then endsL a else []) ++ (if 1 < j then endsL b else [])
def pickL (a b : List Rg) (j : Nat) : List Rg := if j = 0 then a else b
theorem cutsTo_succ (a b : List Rg) (j : Nat) (hj : j < 2) : cutsTo a b (j + 1) = cutsTo a b j ++ endsL (pickL a b j) := by
  match j, hj with
  | 0, _ => simp [cutsTo, pickL]
  | 1, _ => simp [cutsTo, pickL]
theorem cutsTo_len (a b : List Rg) (j : Nat) : (cutsTo a b j).length ≤ 2 + a.length * 2 + b.length * 2 := by
  unfold cutsTo
  rw [List.length_append, List.length_append]
  split <;> split <;> simp [endsL_len] <;> omega
theorem int_two (x y : Int) : ∀ u ∈ [Value.int .i64 x, .int .i64 y], u.oneCell' = true := by simp [Value.oneCell']

set_option maxRecDepth 100000 in
set_option maxHeartbeats 8000000 in
theorem combine_any (kf : FuncId) (eg : ∀ args w, (callFunc kf args).run Try.prog w = .ok (.enter kf args) w) (kp : Bool → Bool → Bool) (hkp : ∀ x y W, Calls Try.prog kf #[.bool x, .bool y] W fun e W' => e = .returned (.bool (kp x y)) ∧ W = W')
    (l m : List Rg) (A A2 : Option Addr) (n c n2 c2 B B2 : Nat) (w : World) (hr : Rd w B 2 A n (rgCells l)) (hr2 : Rd w B2 2 A2 n2 (rgCells m)) (hn : n ≤ 70000) (hn2 : n2 ≤ 70000) :
    Calls Try.prog 30 #[.slice A n c, .slice A2 n2 c2, .func (.func kf) #[] #[]] w (RetR w (combL kp (setL l) (setL m))) := by
  have hr2 := hr2.fits (by decide)
  have HS1 := Lib.hid (set_any l A n c B w hr (by omega))
  have HS2 := Lib.hid (fun (W : World) (h : Below w.heap.size w W) => set_any m A2 n2 c2 w.heap.size W (hr2.below h (Nat.le_refl _)) (by omega))
  have HKP := Lib.hid hkp
  have hva := setL_valid l
  have hvb := setL_valid m
  have hla := setL_len l
  have hlb := setL_len m
  rw [hr.glen] at hla
  rw [hr2.glen] at hlb
  have hma := setL_mem l
  have hmb := setL_mem m
  obtain ⟨a, ha⟩ : ∃ a, setL l = a := ⟨_, rfl⟩
  obtain ⟨b, hb⟩ : ∃ b, setL m = b := ⟨_, rfl⟩
  rw [ha] at hva hla hma ⊢
  rw [hb] at hvb hlb hmb ⊢
  have HVA := Lib.hid hva
  have HVB := Lib.hid hvb
  have HMA := Lib.hid hma
  have HMB := Lib.hid hmb
  have HEA := Lib.hid ha
  have HEB := Lib.hid hb
  clear hr hr2 hkp hva hvb hma hmb ha hb
  go_enter Try.func30, Try.ntmps30
  go_wp2_with fail
  refine HS1.out.mono ?_
  rintro e w1 ⟨⟨A1, n1, c1, rfl, hn1, hR1⟩, hb1⟩
  rw [HEA.out] at hR1
  clear HS1
  go_wp2_with fail
  refine (HS2.out _ hb1).mono ?_
  rintro e w2 ⟨⟨A3, n3, c3, rfl, hn3, hR3⟩, hb2⟩
  rw [HEB.out] at hR3
  have hR1' := (hR1.fits (by decide)).below hb2 (Nat.le_refl _)
  have hR3' := hR3.fits (by decide)
  have hbw := ext_trans hb1 hb2
  have HR1 := Lib.hid (hR1'.more hb2.size)
  have HR3 := Lib.hid hR3'
  have HBW := Lib.hid hbw
  have hl1 : a.length = n1 := hR1.glen
  have hl3 : b.length = n3 := hR3.glen
  have hown0 : (w2.alloc (.cells #[.int .i64 0, .int .i64 65536] 3)).ownsRow w2.heap.size 3 1 (.slice (some ⟨w2.heap.size, 0, none⟩) 2 2) 2 (i64s (cutsTo a b 0)) := by
    have := World.ownsRow_lit (base := w2.heap.size) (e := 3) (size := 1) w2 #[.int .i64 0, .int .i64 65536] 2 (Nat.le_refl _) (by simp [maxLen]) rfl
    simpa [cutsTo] using this
  have HOW0 := Lib.hid (own_box hown0 (.cells #[.slice A1 n1 c1, .slice A3 n3 c3] 22))
  have HBX0 := Lib.hid (Box.alloc_ (w := w2.alloc (.cells #[.int .i64 0, .int .i64 65536] 3)) (cs := #[.slice A1 n1 c1, .slice A3 n3 c3]) (e := 22))
  have HBL0 := Lib.hid (((Below.refl w2.heap.size w2).alloc (Nat.le_refl _) (.cells #[.int .i64 0, .int .i64 65536] 3)).alloc (by simp) (.cells #[.slice A1 n1 c1, .slice A3 n3 c3] 22))
  have hg2 : (w2.alloc (.cells #[.int .i64 0, .int .i64 65536] 3)).heap.size = w2.heap.size + 1 := by simp
  rw [hg2] at HBX0
  clear hR1 hR1' hR3 hR3' hb1 hb2 hbw HS2 hown0 hg2
  go_wp2_with fail
  go_loopw [7, 27] (fun v i wr => ∃ j : Nat, j ≤ 2 ∧ i = .int .i64 j ∧ wr.ownsRow w2.heap.size 3 1 v (cutsTo a b j).length (i64s (cutsTo a b j)) ∧ some (w2.heap.size + 1) ≠ v.ownBlock ∧ Box wr (w2.heap.size + 1) #[.slice A1 n1 c1, .slice A3 n3 c3] ∧ Below w2.heap.size w2 wr) (fun _ i _ => 2 - (intOf i).toNat)
  case atStart => exact ⟨0, by omega, rfl, HOW0.out, by simp [Value.ownBlock], HBX0.out, HBL0.out⟩
  case round =>
    obtain ⟨j, hj, rfl, hown, hne, hbx, hbr⟩ := hrel
    have HBX := Lib.hid hbx
    have HBR := Lib.hid hbr
    have HOW := Lib.hid hown
    have HNE := Lib.hid hne
    clear hown hne hbx hbr HOW0 HBX0 HBL0
    by_cases hj2 : j < 2
    · have hst := cutsTo_succ a b j hj2
      have hlen0 := cutsTo_len a b j
      obtain ⟨A4, n4, c4, hn4, hcell, hR4, hL4, hM4⟩ : ∃ A4 n4 c4, n4 ≤ 70000 ∧ (#[(.slice A1 n1 c1 : Value), .slice A3 n3 c3] : Array Value)[j]? = some (.slice A4 n4 c4) ∧ Rd w2 w2.heap.size 2 A4 n4 (rgCells (pickL a b j)) ∧ (pickL a b j).length = n4 ∧ ∀ r ∈ pickL a b j, 0 ≤ r.1 ∧ r.1 < 65536 ∧ 1 ≤ r.2 ∧ r.1 + r.2 ≤ 65536 := by
        match j, hj2 with
        | 0, _ => exact ⟨A1, n1, c1, by omega, rfl, HR1.out, hl1, HMA.out⟩
        | 1, _ => exact ⟨A3, n3, c3, by omega, rfl, HR3.out, hl3, HMB.out⟩
      obtain ⟨y, yz, yl⟩ := HBX.out
      have y0 : wr.cell? ⟨w2.heap.size + 1, j, none⟩ = some (.slice A4 n4 c4) := (y j).trans hcell
      obtain ⟨p, hp⟩ : ∃ p, pickL a b j = p := ⟨_, rfl⟩
      rw [hp] at hR4 hL4 hM4 hst
      obtain ⟨q, hq⟩ : ∃ q, cutsTo a b j = q := ⟨_, rfl⟩
      rw [hq] at HOW hst hlen0
      have HST := Lib.hid hst
      have HR4 := Lib.hid hR4
      have HM4 := Lib.hid hM4
      have HL4 := Lib.hid hL4
      clear y yz yl hcell hst hp hq hR4 hL4 hM4
      go_wp2_with fail
      go_loopw [7, 33] (fun v i wq => ∃ k : Nat, k ≤ n4 ∧ i = .int .i64 k ∧ wq.ownsRow w2.heap.size 3 1 v (q ++ endsL (p.take k)).length (i64s (q ++ endsL (p.take k))) ∧ some (w2.heap.size + 1) ≠ v.ownBlock ∧ Box wq (w2.heap.size + 1) #[.slice A1 n1 c1, .slice A3 n3 c3] ∧ Below w2.heap.size w2 wq) (fun _ i _ => n4 - (intOf i).toNat)
      case atStart => exact ⟨0, by omega, rfl, by simpa [endsL] using HOW.out, HNE.out, HBX.out, HBR.out⟩
      case round =>
        obtain ⟨k, hk, rfl, hown, hne, hbx, hbr⟩ := hrel
        clear HOW HNE HBX HBR y0
        by_cases hk4 : k < n4
        · obtain ⟨bk, off, rfl, hbl, hk', d0, d1⟩ := rg_cells (HR4.out.below hbr (Nat.le_refl _)) k hk4
          have hes := endsL_snoc p k hk'
          have hmm := HM4.out p[k] (List.getElem_mem _)
          have hel : (endsL (p.take k)).length ≤ 2 * 70000 := by rw [endsL_len, List.length_take]; omega
          obtain ⟨⟨r1, r2⟩, hrv⟩ : ∃ r, p[k] = r := ⟨_, rfl⟩
          rw [hrv] at d0 d1 hes hmm
          simp only at d0 d1 hes hmm
          obtain ⟨m1, m2, m3, m4⟩ := hmm
          have hrow : ∀ (v1 : Value) (W : World), W.ownsRow w2.heap.size 3 1 v1 ((q ++ endsL (p.take k)).length + 2) (i64s (q ++ endsL (p.take k)) ++ [.int .i64 r1, .int .i64 (r1 + r2)]) → W.ownsRow w2.heap.size 3 1 v1 (q ++ endsL (p.take (k + 1))).length (i64s (q ++ endsL (p.take (k + 1)))) := by
            intro v1 W h
            rw [hes, ← List.append_assoc, List.length_append, i64s, List.map_append]
            exact h
          have HROW := Lib.hid hrow
          have HOW := Lib.hid hown
          have HNE := Lib.hid hne
          have HBX := Lib.hid hbx
          have HBR := Lib.hid hbr
          have hsz := hbr.size
          have hlq : (q ++ endsL (p.take k)).length ≤ 500000 := by rw [List.length_append]; omega
          have HBS := Lib.hid (fun (o1 o2 : Obj) => (show w2.heap.size ≤ ((wr.alloc o1).alloc o2).heap.size from by simp; omega))
          have HBL := Lib.hid (fun (o1 o2 : Obj) => (show Below w2.heap.size w2 ((wr.alloc o1).alloc o2) from (hbr.alloc hsz _).alloc (by simp; omega) _))
          clear hown hne hbx hbr hes hrv hrow hel
          go_wp2_with (at_builtin; refine wpList_appN (.tmp 37) (.tmp 45) 28 w2.heap.size 3 _ 1 8 _ (q ++ endsL (p.take k)).length (i64s (q ++ endsL (p.take k))) (wr.heap.size + 2) (some ⟨wr.heap.size + 1, 0, none⟩) 2 2 _ Try.underlying28 intInfo rfl (by decide) rfl rfl rfl rfl ((HOW.out.alloc _).alloc _) (Rd.lit2 rfl (by omega)) (int_two _ _) (by omega) (by omega) (HBS.out _ _) ?_; intro v1 W1 hown1 hg1 hnx1 hb1)
          refine ⟨⟨_, _, _, ?_, rfl, rfl, rfl⟩, by simp [intOf]; omega⟩
          refine ⟨k + 1, by omega, by go_num, by simpa using HROW.out _ _ hown1, ?_, ?_, (HBL.out _ _).trans hb1⟩
          · rcases hnx1 with h | ⟨g, h, hg⟩
            · rw [h]; exact HNE.out
            · rw [h]; intro hh; injection hh with hh; have := HBX.out.2.2; simp at hg; omega
          · exact ((HBX.out.alloc' _).alloc' _).row hg1 HNE.out
        · obtain rfl : k = n4 := by omega
          rw [List.take_of_length_le (by rw [HL4.out]; exact Nat.le_refl _), ← HST.out] at hown
          have HOW := Lib.hid hown
          have HNE := Lib.hid hne
          have HBX := Lib.hid hbx
          have HBR := Lib.hid hbr
          clear hown hne hbx hbr
          go_wp2
          exact ⟨⟨j + 1, by omega, by go_num, HOW.out, HNE.out, HBX.out, HBR.out⟩, by simp [intOf]; omega⟩
    · obtain rfl : j = 2 := by omega
      have hown := HOW.out
      have hcl := cuts_len a b
      have hlc : (cutsTo a b 2).length = 2 + a.length * 2 + b.length * 2 := by rw [← hcl, sortL_len]; rfl
      have hcc : cutsTo a b 2 = cutsL a b := rfl
      obtain ⟨N, hN⟩ : ∃ N, 2 + a.length * 2 + b.length * 2 = N + 1 := ⟨1 + a.length * 2 + b.length * 2, by omega⟩
      have hN2 : N ≤ 300000 := by omega
      rw [hlc, hcc, hN] at hown
      have HSO := Lib.hid (sort_any u7 (N + 1) w2.heap.size (cutsL a b) wr hown (by omega))
      have HGB := Lib.hid (fun (W : World) (hg : wr.grownBy W u7.ownBlock) => below_row HBR.out hown hg (Nat.le_refl _) HBR.out.size)
      have hspec := fun k hk => (combTo_spec kp a b HVA.out HVB.out k hk).1
      have hbd := fun k hk => cut_bd a b HVA.out HVB.out k hk
      have hmo := fun k hk => cut_mono (cutsL a b) k (k + 1) (by omega) hk
      have hlen := fun k => combTo_len kp a b (sortL (cutsL a b)) k
      have hres : combL kp a b = combTo kp a b (sortL (cutsL a b)) N := by rw [combL, hcl, hN]; rfl
      have hsl : (sortL (cutsL a b)).length = N + 1 := by rw [hcl, hN]
      obtain ⟨S, hS⟩ : ∃ S, sortL (cutsL a b) = S := ⟨_, rfl⟩
      rw [hS] at HSO hspec hbd hmo hsl hlen hres
      have HRES := Lib.hid hres
      have HSPEC := Lib.hid hspec
      have HBD := Lib.hid hbd
      have HMO := Lib.hid hmo
      have HLEN := Lib.hid hlen
      have HSL := Lib.hid hsl
      obtain ⟨A7, c7, rfl, _, _⟩ := own_form hown
      clear hown hcl hlc hcc hN hspec hbd hmo hres hsl hS HOW HNE HBX hlen hla hlb
      go_wp2_with fail
      refine HSO.out.mono ?_
      rintro e w5 ⟨rfl, hown5, hg5⟩
      have hb5 := HGB.out w5 hg5
      have HB5 := Lib.hid (HBW.out.trans (hb5.mono HBW.out.size))
      have HRS := Lib.hid (Rd.of_own hown5)
      have HRa := Lib.hid ((HR1.out.below hb5 (Nat.le_refl _)).more hb5.size)
      have HRb := Lib.hid ((HR3.out.below hb5 (Nat.le_refl _)).more hb5.size)
      have f3 : IntKind.i64.wrap ((N : Int) + 1 - 1) = (N : Int) := by rw [IntWalk.i64_in _ ⟨by omega, by omega⟩]; omega
      clear hown5 hg5 hb5 HGB HSO HBR HR1 HR3
      go_wp2_with fail
      go_loopw [12, 13, 14, 54] (fun v i j k wq => ∃ kk ia ib : Nat, kk ≤ N ∧ k = .int .i64 kk ∧ i = .int .i64 ia ∧ j = .int .i64 ib ∧ ia ≤ n1 ∧ ib ≤ n3 ∧ (∀ x (hx : x < a.length), x < ia → a[x].1 + a[x].2 ≤ cut S kk) ∧ (∀ x (hx : x < b.length), x < ib → b[x].1 + b[x].2 ≤ cut S kk) ∧ wq.ownsRow w5.heap.size 37 2 v (combTo kp a b S kk).length (rgCells (combTo kp a b S kk)) ∧ Below w5.heap.size w5 wq) (fun _ _ _ k _ => N - (intOf k).toNat)
      case atStart => exact ⟨0, 0, 0, by omega, rfl, rfl, rfl, by omega, by omega, fun x _ h => absurd h (by omega), fun x _ h => absurd h (by omega), World.ownsRow_nil _ _ _ _, Below.refl _ _⟩
      case round =>
        obtain ⟨kk, ia, ib, hkk, rfl, rfl, rfl, hia, hib, hea, heb, hown, hbr⟩ := hrel
        have HOW := Lib.hid hown
        have HBR := Lib.hid hbr
        by_cases hlt : kk < N
        · obtain ⟨bs, os, rfl, hbs, hk1, c0⟩ := int_cells (HRS.out.below hbr (Nat.le_refl _)) kk (by omega)
          obtain ⟨bs', os', hA', _, hk2, c1⟩ := int_cells (HRS.out.below hbr (Nat.le_refl _)) (kk + 1) (by omega)
          obtain ⟨rfl, rfl⟩ : bs = bs' ∧ os = os' := by injection hA' with e; injection e with e1 e2; exact ⟨e1, e2⟩
          rw [← cut_eq S kk hk1] at c0
          rw [← cut_eq S (kk + 1) hk2] at c1
          have hb0 := HBD.out kk (by omega)
          have hb1 := HBD.out (kk + 1) (by omega)
          have hmm := HMO.out kk (by omega)
          have HPU := Lib.hid (fun (v : Value) (W : World) (h : W.ownsRow w5.heap.size 37 2 v (combTo kp a b S kk).length (rgCells (combTo kp a b S kk))) (hbs : w5.heap.size ≤ W.heap.size) => push_any v _ w5.heap.size (combTo kp a b S kk) (cut S kk) (cut S (kk + 1)) W h hbs (by have := HLEN.out kk; omega) hb0 hb1 (HSPEC.out kk (by omega)).mem)
          have HNX := Lib.hid (show ∀ q, kp (inL a (cut S kk)) (inL b (cut S kk)) = q → combTo kp a b S (kk + 1) = if q = true then pushR (combTo kp a b S kk) (cut S kk) (cut S (kk + 1)) else combTo kp a b S kk from fun q h => by rw [combTo, h])
          obtain ⟨f, hf⟩ : ∃ f, cut S kk = f := ⟨_, rfl⟩
          obtain ⟨g, hg⟩ : ∃ g, cut S (kk + 1) = g := ⟨_, rfl⟩
          rw [hf] at c0 hb0 hmm hea heb
          rw [hg] at c1 hb1 hmm
          simp only [hf, hg] at HPU HNX
          obtain ⟨hf1, hf2⟩ := hb0
          obtain ⟨hg1, hg2⟩ := hb1
          have HG := Lib.hid hg
          have HEA2 := Lib.hid hea
          have HEB2 := Lib.hid heb
          clear hf hg hea heb hk1 hk2 hA' hown
          go_wp2_with fail
          go_quiet (fail)
          go_wp2_with fail
          have hbq := below_drewN hbr nq
          have HBQ := Lib.hid hbq
          have HOQ := Lib.hid (show (wr.drewN nq).ownsRow w5.heap.size 37 2 u12 (combTo kp a b S kk).length (rgCells (combTo kp a b S kk)) from HOW.out)
          obtain ⟨W1, hW1⟩ : ∃ W1, wr.drewN nq = W1 := ⟨_, rfl⟩
          rw [hW1] at HBQ HOQ ⊢
          clear hbq hbr c0 c1 hW1 HOW HBR
          go_loopw [13] (fun i wq => ∃ ia : Nat, ia ≤ n1 ∧ i = .int .i64 ia ∧ (∀ x (hx : x < a.length), x < ia → a[x].1 + a[x].2 ≤ f) ∧ Below W1.heap.size W1 wq) (fun i _ => n1 - (intOf i).toNat)
          case atStart => exact ⟨ia, hia, rfl, HEA2.out, Below.refl _ _⟩
          case round =>
            obtain ⟨ia, hia, rfl, hea, hb1⟩ := hrel
            have HB1 := Lib.hid hb1
            have HEA := Lib.hid hea
            have HRA := Lib.hid (HRa.out.below (HBQ.out.trans (hb1.mono HBQ.out.size)) (Nat.le_refl _))
            clear hb1 HEA2
            obtain ⟨fa, hfa⟩ : ∃ fa, inL a f = fa := ⟨_, rfl⟩
            have hat := in_at a HVA.out f ia (by omega) hea
            rw [hfa] at hat
            by_cases hst : ∃ h : ia < a.length, a[ia].1 + a[ia].2 ≤ f
            · obtain ⟨hal, hle⟩ := hst
              obtain ⟨ba, oa, rfl, hba, _, x0, x1⟩ := rg_cells HRA.out ia (by omega)
              have hmm2 := HMA.out a[ia] (List.getElem_mem _)
              have hnx : ∀ x (hx : x < a.length), x < ia + 1 → a[x].1 + a[x].2 ≤ f := by
                intro x hx hxi
                rcases Nat.lt_or_eq_of_le (show x ≤ ia by omega) with h | h
                · exact hea x hx h
                · subst h; exact hle
              have HNA := Lib.hid hnx
              have hlt1 : ia < n1 := by omega
              obtain ⟨⟨r1, r2⟩, hrv⟩ : ∃ r, a[ia] = r := ⟨_, rfl⟩
              rw [hrv] at x0 x1 hle hmm2
              simp only at x0 x1 hle hmm2
              obtain ⟨q1, q2, q3, q4⟩ := hmm2
              clear hnx hea hrv hat hfa
              go_wp2_with fail
              go_quiet (fail)
              go_wp2
              exact ⟨⟨ia + 1, by omega, by go_num, HNA.out, below_drewN HB1.out _⟩, by simp [intOf]; omega⟩
            · have hx : ∀ h : ia < a.length, f < a[ia].1 + a[ia].2 := fun h => by
                rcases Int.lt_or_le f (a[ia].1 + a[ia].2) with h2 | h2
                · exact h2
                · exact absurd ⟨h, h2⟩ hst
              have hat := hat hx
              have HFA := Lib.hid hfa
              have hea' := hea
              clear hst hea hfa
              have hcase : (∃ r1 r2 ba oa, ia < n1 ∧ A1 = some ⟨ba, oa, none⟩ ∧ ba < w5.heap.size ∧ w5.cell? ⟨ba, oa + ia * 2, none⟩ = some (.int .i64 r1) ∧ w5.cell? ⟨ba, oa + ia * 2 + 1, none⟩ = some (.int .i64 r2) ∧ f < r1 + r2 ∧ decide (r1 ≤ f) = fa ∧ 0 ≤ r1 ∧ r1 + r2 ≤ 65536 ∧ 1 ≤ r2) ∨ (n1 ≤ ia ∧ fa = false) := by
                by_cases hal : ia < a.length
                · left
                  obtain ⟨ba, oa, hA, hba, _, x0, x1⟩ := rg_cells HRa.out ia (by omega)
                  have hmm2 := HMA.out a[ia] (List.getElem_mem _)
                  rw [dif_pos hal] at hat
                  exact ⟨_, _, ba, oa, by omega, hA, hba, x0, x1, hx hal, hat.symm, hmm2.1, hmm2.2.2.2, hmm2.2.2.1⟩
                · right
                  rw [dif_neg hal] at hat
                  exact ⟨by omega, hat⟩
              clear hat hx HRA
              have HEA3 := Lib.hid hea'
              have hb51 := HBQ.out.trans (HB1.out.mono HBQ.out.size)
              have HB51 := Lib.hid hb51
              clear hea' HEA
              rcases hcase with ⟨r1, r2, ba, oa, hin, rfl, hba, x0, x1, hle, hrf, z1, z2, z3⟩ | ⟨hin, rfl⟩
              · have y0 := (hb51.cell (p := ⟨ba, oa + ia * 2, none⟩) hba).trans x0
                have y1 := (hb51.cell (p := ⟨ba, oa + ia * 2 + 1, none⟩) hba).trans x1
                have dd : decide (r1 + r2 ≤ f) = false := by simp only [decide_eq_false_iff_not]; omega
                clear hb51
                go_wp2_with fail
                go_quiet (fail)
                go_wp2_with fail
                have hb52 := below_drewN HB51.out nq
                have hb12 := below_drewN HB1.out nq
                have HOW2 := Lib.hid (own_below HOQ.out hb12 (Nat.le_refl _))
                obtain ⟨W2, hW2⟩ : ∃ W2, wr.drewN nq = W2 := ⟨_, rfl⟩
                rw [hW2] at hb52 HOW2 ⊢
                have HB52 := Lib.hid hb52
                clear hb52 hb12 hW2 HOQ HB51 HB1 HBQ y0 y1 dd
                go_loopw [14] (fun j wq => ∃ ib : Nat, ib ≤ n3 ∧ j = .int .i64 ib ∧ (∀ x (hx : x < b.length), x < ib → b[x].1 + b[x].2 ≤ f) ∧ Below W2.heap.size W2 wq) (fun j _ => n3 - (intOf j).toNat)
                case atStart => exact ⟨ib, hib, rfl, HEB2.out, Below.refl _ _⟩
                case round =>
                  obtain ⟨ib, hib, rfl, heb, hb1⟩ := hrel
                  have HB1 := Lib.hid hb1
                  have HB53 := Lib.hid (HB52.out.trans (hb1.mono HB52.out.size))
                  clear hb1 HEB2
                  obtain ⟨fb, hfb⟩ : ∃ fb, inL b f = fb := ⟨_, rfl⟩
                  have hat := in_at b HVB.out f ib (by omega) heb
                  rw [hfb] at hat
                  by_cases hst : ∃ h : ib < b.length, b[ib].1 + b[ib].2 ≤ f
                  · obtain ⟨hal, hle⟩ := hst
                    obtain ⟨bb, ob, rfl, hbb, _, x0, x1⟩ := rg_cells HRb.out ib (by omega)
                    have y0 := (HB53.out.cell (p := ⟨bb, ob + ib * 2, none⟩) hbb).trans x0
                    have y1 := (HB53.out.cell (p := ⟨bb, ob + ib * 2 + 1, none⟩) hbb).trans x1
                    have hmm2 := HMB.out b[ib] (List.getElem_mem _)
                    have hnx : ∀ x (hx : x < b.length), x < ib + 1 → b[x].1 + b[x].2 ≤ f := by
                      intro x hx hxi
                      rcases Nat.lt_or_eq_of_le (show x ≤ ib by omega) with h | h
                      · exact heb x hx h
                      · subst h; exact hle
                    have HNA := Lib.hid hnx
                    have hlt1 : ib < n3 := by omega
                    obtain ⟨⟨s1, s2⟩, hrv⟩ : ∃ r, b[ib] = r := ⟨_, rfl⟩
                    rw [hrv] at y0 y1 hle hmm2
                    simp only at y0 y1 hle hmm2
                    obtain ⟨q1, q2, q3, q4⟩ := hmm2
                    clear hnx heb hrv hat hfb x0 x1
                    go_wp2_with fail
                    go_quiet (fail)
                    go_wp2
                    exact ⟨⟨ib + 1, by omega, by go_num, HNA.out, below_drewN HB1.out _⟩, by simp [intOf]; omega⟩
                  · have hx : ∀ h : ib < b.length, f < b[ib].1 + b[ib].2 := fun h => by
                      rcases Int.lt_or_le f (b[ib].1 + b[ib].2) with h2 | h2
                      · exact h2
                      · exact absurd ⟨h, h2⟩ hst
                    have hat := hat hx
                    have HFB := Lib.hid hfb
                    have HEB3 := Lib.hid heb
                    clear hst heb hfb
                    have hcase : (∃ s1 s2 bb ob, ib < n3 ∧ A3 = some ⟨bb, ob, none⟩ ∧ bb < w5.heap.size ∧ w5.cell? ⟨bb, ob + ib * 2, none⟩ = some (.int .i64 s1) ∧ w5.cell? ⟨bb, ob + ib * 2 + 1, none⟩ = some (.int .i64 s2) ∧ f < s1 + s2 ∧ decide (s1 ≤ f) = fb ∧ 0 ≤ s1 ∧ s1 + s2 ≤ 65536 ∧ 1 ≤ s2) ∨ (n3 ≤ ib ∧ fb = false) := by
                      by_cases hal : ib < b.length
                      · obtain ⟨bb, ob, hA, hbb, _, x0, x1⟩ := rg_cells HRb.out ib (by omega)
                        have hmm2 := HMB.out b[ib] (List.getElem_mem _)
                        rw [dif_pos hal] at hat
                        exact .inl ⟨_, _, bb, ob, by omega, hA, hbb, x0, x1, hx hal, hat.symm, hmm2.1, hmm2.2.2.2, hmm2.2.2.1⟩
                      · rw [dif_neg hal] at hat
                        exact .inr ⟨by omega, hat⟩
                    clear hat hx
                    rcases hcase with ⟨s1, s2, bb, ob, hjn, rfl, hbb, v0, v1, hle2, hsf, t1, t2, t3⟩ | ⟨hjn, rfl⟩
                    · have p0 := (HB53.out.cell (p := ⟨ba, oa + ia * 2, none⟩) hba).trans x0
                      have p1 := (HB53.out.cell (p := ⟨ba, oa + ia * 2 + 1, none⟩) hba).trans x1
                      have u0 := (HB53.out.cell (p := ⟨bb, ob + ib * 2, none⟩) hbb).trans v0
                      have u1 := (HB53.out.cell (p := ⟨bb, ob + ib * 2 + 1, none⟩) hbb).trans v1
                      have ee : decide (s1 + s2 ≤ f) = false := by simp only [decide_eq_false_iff_not]; omega
                      clear v0 v1
                      obtain ⟨q, hq⟩ : ∃ q, kp fa fb = q := ⟨_, rfl⟩
                      have HK := Lib.hid (show ∀ W, Calls Try.prog kf #[.bool fa, .bool fb] W fun e W' => e = .returned (.bool q) ∧ W = W' from fun W => by rw [← hq]; exact HKP.out fa fb W)
                      have hnx := HNX.out q (by rw [HFA.out, HFB.out]; exact hq)
                      have HN := Lib.hid hnx
                      have HOW3 := Lib.hid (own_below HOW2.out HB1.out (Nat.le_refl _))
                      clear hq hnx
                      go_wp2_with fail
                      go_quiet (fail)
                      go_wp2_with fail
                      go_quiet ((go_at_fn kf; exact quiet_add_left (HK.out _)))
                      cases q
                      · go_wp2
                        refine ⟨⟨kk + 1, ia, ib, by omega, by go_num, rfl, rfl, by omega, by omega, fun x hx h => Int.le_trans (HEA3.out x hx h) (by rw [HG.out]; exact hmm), fun x hx h => Int.le_trans (HEB3.out x hx h) (by rw [HG.out]; exact hmm), ?_, below_drewN HB53.out _⟩, by simp [intOf]; omega⟩
                        rw [show combTo kp a b S (kk + 1) = combTo kp a b S kk by simpa using HN.out]
                        exact HOW3.out
                      · go_wp2_with fail
                        refine (HPU.out u12 _ ?_ ?_).mono ?_
                        · exact HOW3.out
                        · exact HB53.out.size
                        rintro e w6 ⟨v6, rfl, hown6, hg6, hn6⟩
                        have hb6 := below_row (below_drewN HB53.out _) HOW3.out hg6 (Nat.le_refl _) HB53.out.size
                        have HO6 := Lib.hid hown6
                        clear hown6 hg6 hn6
                        go_wp2
                        refine ⟨⟨kk + 1, ia, ib, by omega, by go_num, rfl, rfl, by omega, by omega, fun x hx h => Int.le_trans (HEA3.out x hx h) (by rw [HG.out]; exact hmm), fun x hx h => Int.le_trans (HEB3.out x hx h) (by rw [HG.out]; exact hmm), ?_, hb6⟩, by simp [intOf]; omega⟩
                        rw [show combTo kp a b S (kk + 1) = pushR (combTo kp a b S kk) f g by simpa using HN.out]
                        exact HO6.out
                    · have p0 := (HB53.out.cell (p := ⟨ba, oa + ia * 2, none⟩) hba).trans x0
                      have p1 := (HB53.out.cell (p := ⟨ba, oa + ia * 2 + 1, none⟩) hba).trans x1
                      have ee : decide ((ib : Int) < (n3 : Int)) = false := by simp only [decide_eq_false_iff_not]; omega
                      have ee2 : decide (ib < n3) = false := by simp only [decide_eq_false_iff_not]; omega
                      obtain ⟨q, hq⟩ : ∃ q, kp fa false = q := ⟨_, rfl⟩
                      have HK := Lib.hid (show ∀ W, Calls Try.prog kf #[.bool fa, .bool false] W fun e W' => e = .returned (.bool q) ∧ W = W' from fun W => by rw [← hq]; exact HKP.out fa false W)
                      have hnx := HNX.out q (by rw [HFA.out, HFB.out]; exact hq)
                      have HN := Lib.hid hnx
                      have HOW3 := Lib.hid (own_below HOW2.out HB1.out (Nat.le_refl _))
                      clear hq hnx
                      go_wp2_with fail
                      go_quiet (fail)
                      go_wp2_with fail
                      go_quiet ((go_at_fn kf; exact quiet_add_left (HK.out _)))
                      cases q
                      · go_wp2
                        refine ⟨⟨kk + 1, ia, ib, by omega, by go_num, rfl, rfl, by omega, by omega, fun x hx h => Int.le_trans (HEA3.out x hx h) (by rw [HG.out]; exact hmm), fun x hx h => Int.le_trans (HEB3.out x hx h) (by rw [HG.out]; exact hmm), ?_, below_drewN HB53.out _⟩, by simp [intOf]; omega⟩
                        rw [show combTo kp a b S (kk + 1) = combTo kp a b S kk by simpa using HN.out]
                        exact HOW3.out
                      · go_wp2_with fail
                        refine (HPU.out u12 _ ?_ ?_).mono ?_
                        · exact HOW3.out
                        · exact HB53.out.size
                        rintro e w6 ⟨v6, rfl, hown6, hg6, hn6⟩
                        have hb6 := below_row (below_drewN HB53.out _) HOW3.out hg6 (Nat.le_refl _) HB53.out.size
                        have HO6 := Lib.hid hown6
                        clear hown6 hg6 hn6
                        go_wp2
                        refine ⟨⟨kk + 1, ia, ib, by omega, by go_num, rfl, rfl, by omega, by omega, fun x hx h => Int.le_trans (HEA3.out x hx h) (by rw [HG.out]; exact hmm), fun x hx h => Int.le_trans (HEB3.out x hx h) (by rw [HG.out]; exact hmm), ?_, hb6⟩, by simp [intOf]; omega⟩
                        rw [show combTo kp a b S (kk + 1) = pushR (combTo kp a b S kk) f g by simpa using HN.out]
                        exact HO6.out
              · have dd : decide ((ia : Int) < (n1 : Int)) = false := by simp only [decide_eq_false_iff_not]; omega
                have dd2 : decide (ia < n1) = false := by simp only [decide_eq_false_iff_not]; omega
                clear hb51
                go_wp2_with fail
                go_quiet (fail)
                go_wp2_with fail
                have hb52 := below_drewN HB51.out nq
                have hb12 := below_drewN HB1.out nq
                have HOW2 := Lib.hid (own_below HOQ.out hb12 (Nat.le_refl _))
                obtain ⟨W2, hW2⟩ : ∃ W2, wr.drewN nq = W2 := ⟨_, rfl⟩
                rw [hW2] at hb52 HOW2 ⊢
                have HB52 := Lib.hid hb52
                clear hb52 hb12 hW2 HOQ HB51 HB1 HBQ dd dd2
                go_loopw [14] (fun j wq => ∃ ib : Nat, ib ≤ n3 ∧ j = .int .i64 ib ∧ (∀ x (hx : x < b.length), x < ib → b[x].1 + b[x].2 ≤ f) ∧ Below W2.heap.size W2 wq) (fun j _ => n3 - (intOf j).toNat)
                case atStart => exact ⟨ib, hib, rfl, HEB2.out, Below.refl _ _⟩
                case round =>
                  obtain ⟨ib, hib, rfl, heb, hb1⟩ := hrel
                  have HB1 := Lib.hid hb1
                  have HB53 := Lib.hid (HB52.out.trans (hb1.mono HB52.out.size))
                  clear hb1 HEB2
                  obtain ⟨fb, hfb⟩ : ∃ fb, inL b f = fb := ⟨_, rfl⟩
                  have hat := in_at b HVB.out f ib (by omega) heb
                  rw [hfb] at hat
                  by_cases hst : ∃ h : ib < b.length, b[ib].1 + b[ib].2 ≤ f
                  · obtain ⟨hal, hle⟩ := hst
                    obtain ⟨bb, ob, rfl, hbb, _, x0, x1⟩ := rg_cells HRb.out ib (by omega)
                    have y0 := (HB53.out.cell (p := ⟨bb, ob + ib * 2, none⟩) hbb).trans x0
                    have y1 := (HB53.out.cell (p := ⟨bb, ob + ib * 2 + 1, none⟩) hbb).trans x1
                    have hmm2 := HMB.out b[ib] (List.getElem_mem _)
                    have hnx : ∀ x (hx : x < b.length), x < ib + 1 → b[x].1 + b[x].2 ≤ f := by
                      intro x hx hxi
                      rcases Nat.lt_or_eq_of_le (show x ≤ ib by omega) with h | h
                      · exact heb x hx h
                      · subst h; exact hle
                    have HNA := Lib.hid hnx
                    have hlt1 : ib < n3 := by omega
                    obtain ⟨⟨s1, s2⟩, hrv⟩ : ∃ r, b[ib] = r := ⟨_, rfl⟩
                    rw [hrv] at y0 y1 hle hmm2
                    simp only at y0 y1 hle hmm2
                    obtain ⟨q1, q2, q3, q4⟩ := hmm2
                    clear hnx heb hrv hat hfb x0 x1
                    go_wp2_with fail
                    go_quiet (fail)
                    go_wp2
                    exact ⟨⟨ib + 1, by omega, by go_num, HNA.out, below_drewN HB1.out _⟩, by simp [intOf]; omega⟩
                  · have hx : ∀ h : ib < b.length, f < b[ib].1 + b[ib].2 := fun h => by
                      rcases Int.lt_or_le f (b[ib].1 + b[ib].2) with h2 | h2
                      · exact h2
                      · exact absurd ⟨h, h2⟩ hst
                    have hat := hat hx
                    have HFB := Lib.hid hfb
                    have HEB3 := Lib.hid heb
                    clear hst heb hfb
                    have hcase : (∃ s1 s2 bb ob, ib < n3 ∧ A3 = some ⟨bb, ob, none⟩ ∧ bb < w5.heap.size ∧ w5.cell? ⟨bb, ob + ib * 2, none⟩ = some (.int .i64 s1) ∧ w5.cell? ⟨bb, ob + ib * 2 + 1, none⟩ = some (.int .i64 s2) ∧ f < s1 + s2 ∧ decide (s1 ≤ f) = fb ∧ 0 ≤ s1 ∧ s1 + s2 ≤ 65536 ∧ 1 ≤ s2) ∨ (n3 ≤ ib ∧ fb = false) := by
                      by_cases hal : ib < b.length
                      · obtain ⟨bb, ob, hA, hbb, _, x0, x1⟩ := rg_cells HRb.out ib (by omega)
                        have hmm2 := HMB.out b[ib] (List.getElem_mem _)
                        rw [dif_pos hal] at hat
                        exact .inl ⟨_, _, bb, ob, by omega, hA, hbb, x0, x1, hx hal, hat.symm, hmm2.1, hmm2.2.2.2, hmm2.2.2.1⟩
                      · rw [dif_neg hal] at hat
                        exact .inr ⟨by omega, hat⟩
                    clear hat hx
                    rcases hcase with ⟨s1, s2, bb, ob, hjn, rfl, hbb, v0, v1, hle2, hsf, t1, t2, t3⟩ | ⟨hjn, rfl⟩
                    · have dd : decide ((ia : Int) < (n1 : Int)) = false := by simp only [decide_eq_false_iff_not]; omega
                      have dd2 : decide (ia < n1) = false := by simp only [decide_eq_false_iff_not]; omega
                      have u0 := (HB53.out.cell (p := ⟨bb, ob + ib * 2, none⟩) hbb).trans v0
                      have u1 := (HB53.out.cell (p := ⟨bb, ob + ib * 2 + 1, none⟩) hbb).trans v1
                      have ee : decide (s1 + s2 ≤ f) = false := by simp only [decide_eq_false_iff_not]; omega
                      clear v0 v1
                      obtain ⟨q, hq⟩ : ∃ q, kp false fb = q := ⟨_, rfl⟩
                      have HK := Lib.hid (show ∀ W, Calls Try.prog kf #[.bool false, .bool fb] W fun e W' => e = .returned (.bool q) ∧ W = W' from fun W => by rw [← hq]; exact HKP.out false fb W)
                      have hnx := HNX.out q (by rw [HFA.out, HFB.out]; exact hq)
                      have HN := Lib.hid hnx
                      have HOW3 := Lib.hid (own_below HOW2.out HB1.out (Nat.le_refl _))
                      clear hq hnx
                      go_wp2_with fail
                      go_quiet (fail)
                      go_wp2_with fail
                      go_quiet ((go_at_fn kf; exact quiet_add_left (HK.out _)))
                      cases q
                      · go_wp2
                        refine ⟨⟨kk + 1, ia, ib, by omega, by go_num, rfl, rfl, by omega, by omega, fun x hx h => Int.le_trans (HEA3.out x hx h) (by rw [HG.out]; exact hmm), fun x hx h => Int.le_trans (HEB3.out x hx h) (by rw [HG.out]; exact hmm), ?_, below_drewN HB53.out _⟩, by simp [intOf]; omega⟩
                        rw [show combTo kp a b S (kk + 1) = combTo kp a b S kk by simpa using HN.out]
                        exact HOW3.out
                      · go_wp2_with fail
                        refine (HPU.out u12 _ ?_ ?_).mono ?_
                        · exact HOW3.out
                        · exact HB53.out.size
                        rintro e w6 ⟨v6, rfl, hown6, hg6, hn6⟩
                        have hb6 := below_row (below_drewN HB53.out _) HOW3.out hg6 (Nat.le_refl _) HB53.out.size
                        have HO6 := Lib.hid hown6
                        clear hown6 hg6 hn6
                        go_wp2
                        refine ⟨⟨kk + 1, ia, ib, by omega, by go_num, rfl, rfl, by omega, by omega, fun x hx h => Int.le_trans (HEA3.out x hx h) (by rw [HG.out]; exact hmm), fun x hx h => Int.le_trans (HEB3.out x hx h) (by rw [HG.out]; exact hmm), ?_, hb6⟩, by simp [intOf]; omega⟩
                        rw [show combTo kp a b S (kk + 1) = pushR (combTo kp a b S kk) f g by simpa using HN.out]
                        exact HO6.out
                    · have dd : decide ((ia : Int) < (n1 : Int)) = false := by simp only [decide_eq_false_iff_not]; omega
                      have dd2 : decide (ia < n1) = false := by simp only [decide_eq_false_iff_not]; omega
                      have ee : decide ((ib : Int) < (n3 : Int)) = false := by simp only [decide_eq_false_iff_not]; omega
                      have ee2 : decide (ib < n3) = false := by simp only [decide_eq_false_iff_not]; omega
                      obtain ⟨q, hq⟩ : ∃ q, kp false false = q := ⟨_, rfl⟩
                      have HK := Lib.hid (show ∀ W, Calls Try.prog kf #[.bool false, .bool false] W fun e W' => e = .returned (.bool q) ∧ W = W' from fun W => by rw [← hq]; exact HKP.out false false W)
                      have hnx := HNX.out q (by rw [HFA.out, HFB.out]; exact hq)
                      have HN := Lib.hid hnx
                      have HOW3 := Lib.hid (own_below HOW2.out HB1.out (Nat.le_refl _))
                      clear hq hnx
                      go_wp2_with fail
                      go_quiet (fail)
                      go_wp2_with fail
                      go_quiet ((go_at_fn kf; exact quiet_add_left (HK.out _)))
                      cases q
                      · go_wp2
                        refine ⟨⟨kk + 1, ia, ib, by omega, by go_num, rfl, rfl, by omega, by omega, fun x hx h => Int.le_trans (HEA3.out x hx h) (by rw [HG.out]; exact hmm), fun x hx h => Int.le_trans (HEB3.out x hx h) (by rw [HG.out]; exact hmm), ?_, below_drewN HB53.out _⟩, by simp [intOf]; omega⟩
                        rw [show combTo kp a b S (kk + 1) = combTo kp a b S kk by simpa using HN.out]
                        exact HOW3.out
                      · go_wp2_with fail
                        refine (HPU.out u12 _ ?_ ?_).mono ?_
                        · exact HOW3.out
                        · exact HB53.out.size
                        rintro e w6 ⟨v6, rfl, hown6, hg6, hn6⟩
                        have hb6 := below_row (below_drewN HB53.out _) HOW3.out hg6 (Nat.le_refl _) HB53.out.size
                        have HO6 := Lib.hid hown6
                        clear hown6 hg6 hn6
                        go_wp2
                        refine ⟨⟨kk + 1, ia, ib, by omega, by go_num, rfl, rfl, by omega, by omega, fun x hx h => Int.le_trans (HEA3.out x hx h) (by rw [HG.out]; exact hmm), fun x hx h => Int.le_trans (HEB3.out x hx h) (by rw [HG.out]; exact hmm), ?_, hb6⟩, by simp [intOf]; omega⟩
                        rw [show combTo kp a b S (kk + 1) = pushR (combTo kp a b S kk) f g by simpa using HN.out]
                        exact HO6.out
        · obtain rfl : kk = N := by omega
          obtain ⟨A8, c8, rfl, _, _⟩ := own_form hown
          clear hown hbr
          go_wp2
          go_ret
          exact ⟨.slice A8 (combTo kp a b S kk).length c8, rfl, by rw [HRES.out]; exact own_mono HOW.out HB5.out.size, HB5.out.trans (HBR.out.mono HB5.out.size)⟩
end Go.Proofs.Ytebeaghombjooaa

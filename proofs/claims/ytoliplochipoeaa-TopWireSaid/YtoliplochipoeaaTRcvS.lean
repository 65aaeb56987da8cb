/- The receiver: Split. -/
import Derived.Test.YtoliplochipoeaaTRcvF
set_option linter.unusedVariables false
set_option linter.unusedSimpArgs false
namespace Go.Proofs.Ytoliplochipoeaa
open Go.RowKit

def inR (e : Ev) : Bool := decide (0 ≤ e.at_ ∧ e.at_ ≤ 1152921504606846976)
def ordE (p : Int) : List Ev → Bool
  | [] => true
  | e :: t => decide (p ≤ e.at_) && ordE e.at_ t
def lastE (p : Int) : List Ev → Int
  | [] => p
  | e :: t => lastE e.at_ t
theorem ordE_snoc (p : Int) (l : List Ev) (e : Ev) : ordE p (l ++ [e]) = (ordE p l && decide (lastE p l ≤ e.at_)) := by
  induction l generalizing p with
  | nil => simp only [List.nil_append, ordE, lastE, Bool.and_true, Bool.true_and]; rfl
  | cons y t ih => simp only [List.cons_append, ordE, lastE, ih, Bool.and_assoc]; rfl
theorem lastE_snoc (p : Int) (l : List Ev) (e : Ev) : lastE p (l ++ [e]) = e.at_ := by
  induction l generalizing p with
  | nil => rfl
  | cons y t ih => simpa [lastE] using ih y.at_
theorem ordE_take (p : Int) (l : List Ev) (k : Nat) (h : ordE p l = true) : ordE p (l.take k) = true := by
  induction l generalizing p k with
  | nil => simp [ordE]
  | cons y t ih =>
    simp only [ordE, Bool.and_eq_true, decide_eq_true_eq] at h
    cases k with
    | zero => rfl
    | succ k => simp only [List.take_succ_cons, ordE, Bool.and_eq_true, decide_eq_true_eq]; exact ⟨h.1, ih _ k h.2⟩
theorem charS_lt (ch t15 t35 : Int) (S : Rs) (e : Ev) : (charS ch t15 t35 S e).lt = e.at_ ∧ (charS ch t15 t35 S e).id_ = S.id_ := by
  simp only [charS, addS]
  refine ⟨trivial, ?_⟩
  split <;> rfl
theorem runS_lt (ch t15 t35 : Int) (S : Rs) (l : List Ev) : (runS ch t15 t35 S l).2.lt = lastE S.lt l ∧ (runS ch t15 t35 S l).2.id_ = S.id_ := by
  induction l generalizing S with
  | nil => exact ⟨rfl, rfl⟩
  | cons e t ih =>
    have := ih (charS ch t15 t35 S e)
    rw [(charS_lt ch t15 t35 S e).1, (charS_lt ch t15 t35 S e).2] at this
    exact this
theorem lastE_nonneg (p : Int) (l : List Ev) (hp : 0 ≤ p) (h : l.all inR = true) : 0 ≤ lastE p l := by
  induction l generalizing p with
  | nil => exact hp
  | cons e t ih =>
    simp only [List.all_cons, Bool.and_eq_true, inR, decide_eq_true_eq] at h
    exact ih _ h.1.1 (by simpa [inR] using h.2)
theorem all_snoc (l : List Ev) (k : Nat) (hk : k < l.length) : (l.take (k + 1)).all inR = ((l.take k).all inR && inR l[k]) := by
  rw [List.take_succ_eq_append_getElem hk, List.all_append]; simp
theorem alle_take (l : List Ev) (k : Nat) (h : l.all inR = true) : (l.take k).all inR = true := by
  rw [List.all_eq_true] at h ⊢
  exact fun x hx => h x (List.mem_of_mem_take hx)
def SplitOk (w w' : World) (ch t15 t35 : Int) (evs : List Ev) (vo : Value) (E : Int) : Prop :=
  Below w.heap.size w w' ∧ ((evs.all inR = false ∧ E = 3 ∧ vo = .slice none 0 0) ∨ (evs.all inR = true ∧ ordE 0 evs = false ∧ E = 7 ∧ vo = .slice none 0 0) ∨ (evs.all inR = true ∧ ordE 0 evs = true ∧ E = 0 ∧ ∃ (l : List Fr) (Ao : Option Addr) (co : Nat), vo = .slice Ao l.length co ∧ Rd w' w'.heap.size 4 Ao l.length (frCells l) ∧ (∀ f ∈ l, FrOk w' (fun _ => False) f) ∧ l.map fz = framesS ch t15 t35 evs))
theorem FrOk.below {w w' : World} {N : Nat → Prop} {f : Fr} (h : FrOk w N f) (hb : Below w.heap.size w w') : FrOk w' N f := h.move hb.size (fun b hlt _ => hb.block b hlt) (fun _ _ h => h)
theorem one_fr (f : Fr) : ∀ u ∈ frRow f, u.oneCell' = true := by
  intro u hu
  simp only [frRow, List.mem_cons, List.not_mem_nil, or_false] at hu
  rcases hu with rfl | rfl | rfl | rfl <;> rfl
theorem split_bad (b p : Int) (hv : validB b p = false) (v : Value) (w : World) :
    Calls Try.prog 13 #[.agg #[.int .i64 b, .int .i64 p], v] w fun e w' => e = .returned (.tuple #[.slice none 0 0, .int .i64 5]) ∧ Below w.heap.size w w' := by
  have HN := Lib.hid (fun W => new_bad b p hv W)
  have hb0 : Below w.heap.size w (w.alloc (.cells #[.int .i64 b, .int .i64 p] 24)) := (Below.refl _ _).alloc (Nat.le_refl _) _
  clear hv
  go_enter Try.func13, Try.ntmps13
  go_wp2_with fail
  refine (HN.out _).mono ?_
  rintro e w1 ⟨rfl, hb1⟩
  go_wp2
  exact bodyPost_ret (v := .tuple #[.slice none 0 0, .int .i64 5]) (by simp [results, Try.results13, go_sem]) rfl ⟨rfl, ext_trans hb0 hb1⟩
set_option maxRecDepth 100000 in
set_option maxHeartbeats 8000000 in
theorem split_ok (b p ch t15 t35 : Int) (hv : validB b p = true) (h1 : charZ b p = ch) (h2 : t15Z b p = t15) (h3 : t35Z b p = t35) (evs : List Ev) (A : Option Addr) (n c B : Nat) (w : World) (hr : Rd w B 3 A n (evCells evs)) (hB : B ≤ w.heap.size) (hn : n ≤ 1000) :
    Calls Try.prog 13 #[.agg #[.int .i64 b, .int .i64 p], .slice A n c] w fun e w' => ∃ vo E, e = .returned (.tuple #[vo, .int .i64 E]) ∧ SplitOk w w' ch t15 t35 evs vo E := by
  have HN := Lib.hid (fun W => new_ok b p ch t15 t35 hv h1 h2 h3 W)
  have hch := char_bd b p
  rw [h1] at hch
  have HCH := Lib.hid hch
  have hb0 : Below w.heap.size w (w.alloc (.cells #[.int .i64 b, .int .i64 p] 24)) := (Below.refl _ _).alloc (Nat.le_refl _) _
  have HEL := Lib.hid hr.elen
  have HR := Lib.hid hr
  have HBB := Lib.hid hB
  have HR0 := Lib.hid hr
  have HB0 := Lib.hid hB
  clear hv h1 h2 h3 hch hr hB
  go_enter Try.func13, Try.ntmps13
  go_wp2_with fail
  refine (HN.out _).mono ?_
  rintro e w1 ⟨g, rfl, hBg, hwg, hb1⟩
  have hbw := ext_trans hb0 hb1
  have hst : SpSt w w1 g (.slice none 0 0) (.slice none 0 0) ch t15 t35 .zero [] :=
    ⟨⟨hBg, rfl, .inl ⟨rfl, rfl⟩⟩, ⟨rfl, .inl ⟨rfl, rfl⟩⟩, (fun e => by cases e), (fun b hb => by cases hb), (fun f hf => by cases hf), Nat.le_trans (by simp) hwg, hbw⟩
  have HST := Lib.hid hst
  have HR1 := Lib.hid (HR.out.below hbw HBB.out)
  have HB1 := Lib.hid (show B ≤ w1.heap.size from Nat.le_trans HBB.out hbw.size)
  clear hst hBg hwg hb0 hb1 hbw HR HBB
  go_wp2_with fail
  go_loopw [9, 26] (fun xb i wr => ∃ k : Nat, k ≤ n ∧ i = .int .i64 k ∧ (evs.take k).all inR = true ∧ Below w1.heap.size w1 wr) (fun _ i _ => n - (intOf i).toNat)
  case atStart => exact ⟨0, by omega, rfl, by simp, Below.refl _ _⟩
  case round =>
    obtain ⟨k, hk, rfl, hall, hbr⟩ := hrel
    have HALL := Lib.hid hall
    have HBR := Lib.hid hbr
    clear hall hbr
    by_cases hlt : k < n
    · have hRk := HR1.out.below HBR.out HB1.out
      obtain ⟨b0, off, rfl, hbl, hk', c0, c1, c2⟩ := ev_at hRk k hlt
      have hsn := all_snoc evs k hk'
      have hmem : inR evs[k] = false → evs.all inR = false := fun h => by
        rw [Bool.eq_false_iff]
        intro ha
        rw [List.all_eq_true] at ha
        rw [ha _ (List.getElem_mem hk')] at h
        cases h
      obtain ⟨ev, hev⟩ : ∃ ev, evs[k] = ev := ⟨_, rfl⟩
      rw [hev] at c0 c1 c2 hsn hmem
      obtain ⟨at_, val, fl⟩ := ev
      dsimp only at c0 c1 c2
      have HSN := Lib.hid hsn
      have HMEM := Lib.hid hmem
      have hbx := Box.alloc_ (w := wr) (cs := #[.int .i64 at_, .int .u8 val, .int .i64 fl]) (e := 40)
      have hbE := HBR.out.alloc HBR.out.size (.cells #[.int .i64 at_, .int .u8 val, .int .i64 fl] 40)
      have HBE := Lib.hid hbE
      obtain ⟨qx, zx, lx⟩ := hbx
      clear hRk hev hsn hmem hbE
      by_cases a1 : at_ < 0
      · have d1 : decide (at_ < 0) = true := by simpa using a1
        have HF := Lib.hid (HMEM.out (by simp [inR]; omega))
        clear a1
        go_wp2
        exact bodyPost_ret (v := .tuple #[.slice none 0 0, .int .i64 3]) (by simp [results, Try.results13, go_sem]) rfl ⟨_, _, rfl, ext_trans HST.out.2.2.2.2.2.2 HBE.out, .inl ⟨HF.out, rfl, rfl⟩⟩
      · have d1 : decide (at_ < 0) = false := by simpa using a1
        by_cases a2 : 1152921504606846976 < at_
        · have d2 : decide (1152921504606846976 < at_) = true := by simpa using a2
          have HF := Lib.hid (HMEM.out (by simp [inR]; omega))
          clear a1 a2
          go_wp2
          exact bodyPost_ret (v := .tuple #[.slice none 0 0, .int .i64 3]) (by simp [results, Try.results13, go_sem]) rfl ⟨_, _, rfl, ext_trans HST.out.2.2.2.2.2.2 HBE.out, .inl ⟨HF.out, rfl, rfl⟩⟩
        · have d2 : decide (1152921504606846976 < at_) = false := by simpa using a2
          have HI := Lib.hid (show inR ⟨at_, val, fl⟩ = true by simp [inR]; omega)
          clear a1 a2
          go_wp2_with fail
          go_roundw
          case rel => exact ⟨k + 1, by omega, by go_num, by rw [HSN.out, HALL.out, HI.out]; rfl, HBE.out⟩
          case measure => simp [intOf]; omega
    · obtain rfl : k = n := by omega
      have hall := HALL.out
      rw [List.take_of_length_le (by rw [HEL.out]; exact Nat.le_refl _)] at hall
      have HA := Lib.hid hall
      have HS2 := Lib.hid (HST.out.below HBR.out)
      have HK := Lib.hid hn
      clear hall HST HR1 HB1 HBR HALL hk hlt HN
      go_wp2_with fail
      go_loopw [10, 12, 13, 14, 15, 41] (fun vo xb fb en ee i x => ∃ (j : Nat) (v : Value) (l : List Fr) (Ao : Option Addr) (co : Nat), vo = .slice Ao l.length co ∧ j ≤ k ∧ i = .int .i64 j ∧ ordE 0 (evs.take j) = true ∧ SpSt w x g v (.slice Ao l.length co) ch t15 t35 (runS ch t15 t35 .zero (evs.take j)).2 l ∧ l.map fz = (runS ch t15 t35 .zero (evs.take j)).1) (fun _ _ _ _ _ i _ => k - (intOf i).toNat)
      case atStart => exact ⟨0, _, [], none, 0, rfl, by omega, rfl, rfl, HS2.out, rfl⟩
      case round =>
        obtain ⟨j, v, l, Ao, co, rfl, hj, rfl, hord, hsp, hlm⟩ := hrel
        obtain ⟨S, hS⟩ : ∃ S, (runS ch t15 t35 .zero (evs.take j)).2 = S := ⟨_, rfl⟩
        obtain ⟨F, hF⟩ : ∃ F, (runS ch t15 t35 .zero (evs.take j)).1 = F := ⟨_, rfl⟩
        have hSl := runS_lt ch t15 t35 .zero (evs.take j)
        have hSx := runS_xs ch t15 t35 .zero (evs.take j) (by simp [Rs.zero])
        have hFl := runS_len ch t15 t35 .zero (evs.take j)
        have hln := lastE_nonneg 0 (evs.take j) (Int.le_refl _) (alle_take _ _ HA.out)
        rw [hS] at hSl hSx hsp
        rw [hF] at hFl hlm
        have hl0 : l.length ≤ 1000 := by
          have h1 : l.length = F.length := by rw [← hlm]; simp
          have h2 : (evs.take j).length ≤ j := by simp; omega
          have := HK.out
          omega
        have HORD := Lib.hid hord
        have HSP := Lib.hid hsp
        have HLM := Lib.hid hlm
        have HL0 := Lib.hid hl0
        clear hord hsp hlm hFl hl0
        obtain ⟨hS1, hS2⟩ := hSl
        have hS2 : S.id_ = 0 := hS2
        have hS1 : S.lt = lastE 0 (evs.take j) := hS1
        have HSS := Lib.hid hS
        have HFF := Lib.hid hF
        clear hS hF
        by_cases hlt : j < k
        · have hbx0 := HSP.out.2.2.2.2.2.2
          have hRk := HR0.out.below hbx0 HB0.out
          obtain ⟨b0, off, rfl, hbl, hk', c0, c1, c2⟩ := ev_at hRk j hlt
          have hin : inR evs[j] = true := (List.all_eq_true.1 HA.out) _ (List.getElem_mem hk')
          have htk := List.take_succ_eq_append_getElem hk'
          obtain ⟨ev, hev⟩ : ∃ ev, evs[j] = ev := ⟨_, rfl⟩
          rw [hev] at c0 c1 c2 hin htk
          obtain ⟨at_, val, fl⟩ := ev
          dsimp only at c0 c1 c2
          simp only [inR, decide_eq_true_eq] at hin
          obtain ⟨hin1, hin2⟩ := hin
          have hbx := Box.alloc_ (w := wr) (cs := #[.int .i64 at_, .int .u8 val, .int .i64 fl]) (e := 40)
          have HSX := Lib.hid (HSP.out.below ((Below.refl _ _).alloc (Nat.le_refl _) (.cells #[.int .i64 at_, .int .u8 val, .int .i64 fl] 40)))
          obtain ⟨qx, zx, lx⟩ := hbx
          clear hRk hev hbx0
          by_cases ho : at_ < S.lt
          · have hof : ordE 0 evs = false := by
              rw [Bool.eq_false_iff]
              intro ha
              have := ordE_take 0 evs (j + 1) ha
              rw [htk, ordE_snoc] at this
              simp at this
              omega
            have HOF := Lib.hid hof
            have HCB := Lib.hid (fun (W : World) (h : SpSt w W g v (.slice Ao l.length co) ch t15 t35 S l) => char_bad v ch t15 t35 S.fi S.la S.fl S.ac S.lt S.id_ at_ val fl 7 g W h.1.1 (.inr ⟨hin1, hin2, .inl ho, rfl⟩))
            clear hof ho hin1 hin2 htk hln hS1 hS2 hSx
            go_wp2_with fail
            refine (HCB.out _ HSX.out).mono ?_
            rintro e w3 ⟨rfl, hb3⟩
            unfold noFrame
            have HB3 := Lib.hid (ext_alloc (ext_trans HSX.out.2.2.2.2.2.2 hb3) (.cells #[.slice none 0 0, .int .i64 0, .int .i64 0, .int .i64 0] 46))
            clear hb3
            go_wp2
            exact bodyPost_ret (v := .tuple #[.slice none 0 0, .int .i64 7]) (by simp [results, Try.results13, go_sem]) rfl ⟨_, _, rfl, HB3.out, .inr (.inl ⟨HA.out, HOF.out, rfl, rfl⟩)⟩
          · have hot : ordE 0 (evs.take (j + 1)) = true := by
              rw [htk, ordE_snoc, HORD.out]
              simp
              omega
            have hrn := runS_snoc ch t15 t35 .zero (evs.take j) ⟨at_, val, fl⟩
            rw [← htk, HSS.out, HFF.out] at hrn
            have HOT := Lib.hid hot
            obtain ⟨hc1, hc2⟩ := HCH.out
            by_cases he : endS ch t35 S ⟨at_, val, fl⟩ = true
            · have he2 := he
              simp only [endS, Bool.and_eq_true, decide_eq_true_eq] at he2
              obtain ⟨hac, hse⟩ := he2
              have hst : charS ch t15 t35 S ⟨at_, val, fl⟩ = addS t15 (takeS S) (silS ch S ⟨at_, val, fl⟩) ⟨at_, val, fl⟩ := by rw [charS, if_pos he]
              rw [if_pos he, hst] at hrn
              have HRN := Lib.hid hrn
              have HCE := Lib.hid (fun (W : World) (h : SpSt w W g v (.slice Ao l.length co) ch t15 t35 S l) => char_end ch t15 t35 S.xs _ v S.fi S.la S.fl S.lt S.id_ at_ val fl _ g W (by have h1 := h.1; rw [hac] at h1; exact h1) rfl hc1 (by omega) (by rw [hS1]; exact hln) hin1 hin2 (by omega) (by rw [hS2]; exact hin1) rfl hse)
              clear hot hst he hac hse hrn hc1 hc2 ho hin1 hin2 htk hln hS1 hS2 hSx
              go_wp2_with fail
              refine (HCE.out _ HSX.out).mono ?_
              rintro e w3 ⟨A2, n2, c2, rfl, rfl, v', hR3, hv3, hch3⟩
              obtain ⟨hs3, hf3⟩ := HSX.out.end_ (S' := addS t15 (takeS S) (silS ch S ⟨at_, val, fl⟩) ⟨at_, val, fl⟩) hR3 hv3 hch3
              have hb4 := (Below.refl w3.heap.size w3).alloc (Nat.le_refl _) (.cells #[.slice A2 n2 c2, .int .i64 S.fi, .int .i64 S.la, .int .i64 S.fl] 46)
              have hs4 := hs3.below hb4
              have hf4 := hf3.below hb4
              have hb5 := (Below.refl _ (w3.alloc (.cells #[.slice A2 n2 c2, .int .i64 S.fi, .int .i64 S.la, .int .i64 S.fl] 46))).alloc (Nat.le_refl _) (.cells #[.slice A2 n2 c2, .int .i64 S.fi, .int .i64 S.la, .int .i64 S.fl] 46)
              have HS5 := Lib.hid (hs4.below hb5)
              have HF5 := Lib.hid (hf4.below hb5)
              have HBf := Lib.hid (Box.alloc_ (w := w3) (cs := #[.slice A2 n2 c2, .int .i64 S.fi, .int .i64 S.la, .int .i64 S.fl]) (e := 46))
              obtain ⟨qf, zf, lf⟩ := HBf.out
              clear hR3 hv3 hch3 hs3 hf3 hb4 hs4 hf4 hb5 qx zx lx
              go_wp2_with (at_builtin; refine wpList_appN (.tmp 56) (.tmp 58) 42 w.heap.size 46 _ 4 48 _ l.length (frCells l) (w3.heap.size + 2) (some ⟨w3.heap.size + 1, 0, none⟩) 1 1 _ Try.underlying42 frInfo rfl (by decide) rfl rfl rfl rfl HS5.out.2.1 (by have h := Rd.lit (w := w3.alloc (.cells #[.slice A2 n2 c2, .int .i64 S.fi, .int .i64 S.la, .int .i64 S.fl] 46)) (size := 4) (n := 1) (cs := #[.slice A2 n2 c2, .int .i64 S.fi, .int .i64 S.la, .int .i64 S.fl]) (e := 46) (fz := (0, 0)) (B := w3.heap.size + 2) rfl (by simp); simpa using h) (one_fr ⟨A2, n2, c2, S.xs, S.fi, S.la, S.fl⟩) (by have := HL0.out; omega) (by omega) (by have := HS5.out.2.2.2.2.2.2.size; exact this) ?_; intro vo' w6 hown6 hg6 hn6 hb6)
              have hs6 := HS5.out.app HF5.out hown6 hg6 hn6
              obtain ⟨Ao', co', hvo, _, _⟩ := own_form hown6
              subst hvo
              have HS6 := Lib.hid hs6
              clear hs6 hown6 hg6 hn6 hb6
              go_roundw
              case rel => exact ⟨j + 1, v', l ++ [⟨A2, n2, c2, S.xs, S.fi, S.la, S.fl⟩], Ao', co', by simp, by omega, by go_num, HOT.out, by rw [HRN.out, List.length_append]; exact HS6.out, by rw [HRN.out]; simp [HLM.out, fz, Rs.frame]⟩
              case measure => simp [intOf]; omega
            · have hno : S.ac = false ∨ silS ch S ⟨at_, val, fl⟩ < t35 := by
                simp only [endS, Bool.and_eq_true, decide_eq_true_eq] at he
                cases hac : S.ac
                · exact .inl rfl
                · exact .inr (by rw [hac] at he; simp at he; omega)
              have hst : charS ch t15 t35 S ⟨at_, val, fl⟩ = addS t15 S (silS ch S ⟨at_, val, fl⟩) ⟨at_, val, fl⟩ := by rw [charS, if_neg he]
              rw [if_neg he, List.append_nil, hst] at hrn
              have HRN := Lib.hid hrn
              have HCK := Lib.hid (fun (W : World) (h : SpSt w W g v (.slice Ao l.length co) ch t15 t35 S l) => char_keep ch t15 t35 S.xs _ _ _ v S.fi S.la S.fl S.ac S.lt S.id_ at_ val fl _ g W h.1 hSx rfl rfl rfl hc1 (by omega) (by rw [hS1]; exact hln) hin1 hin2 (by omega) (by rw [hS2]; exact hin1) rfl hno)
              clear hot hst hno he hrn hc1 hc2 ho hin1 hin2 htk hln hS1 hS2 hSx
              go_wp2_with fail
              refine (HCK.out _ HSX.out).mono ?_
              rintro e w3 ⟨rfl, v', hR3, hv3, hch3⟩
              unfold noFrame
              have HS3 := Lib.hid ((HSX.out.keep (S' := addS t15 S (silS ch S ⟨at_, val, fl⟩) ⟨at_, val, fl⟩) hR3 hv3 hch3).below ((Below.refl _ _).alloc (Nat.le_refl _) (.cells #[.slice none 0 0, .int .i64 0, .int .i64 0, .int .i64 0] 46)))
              clear hR3 hv3 hch3
              go_wp2_with fail
              go_roundw
              case rel => exact ⟨j + 1, v', l, Ao, co, rfl, by omega, by go_num, HOT.out, by rw [HRN.out]; exact HS3.out, by rw [HRN.out]; exact HLM.out⟩
              case measure => simp [intOf]; omega
        · obtain rfl : j = k := by omega
          have hta : evs.take j = evs := List.take_of_length_le (by rw [HEL.out]; exact Nat.le_refl _)
          rw [hta] at HORD HSS HFF
          have hfr : framesS ch t15 t35 evs = F ++ (if S.ac then [S.frame] else []) := by rw [framesS, HSS.out, HFF.out]
          have HFR := Lib.hid hfr
          obtain ⟨q, z, lz⟩ := HSP.out.1.1
          unfold rcvCells at q
          have fin : ∀ (w' : World) (v' : Value) (S' : Rs) (l' : List Fr) (A' : Option Addr) (c' : Nat), SpSt w w' g v' (.slice A' l'.length c') ch t15 t35 S' l' → l'.map fz = framesS ch t15 t35 evs → SplitOk w w' ch t15 t35 evs (.slice A' l'.length c') 0 := fun w' v' S' l' A' c' h1 h2 =>
            ⟨h1.2.2.2.2.2.2, .inr (.inr ⟨HA.out, HORD.out, rfl, l', A', c', rfl, Rd.of_own h1.2.1, fun f hf => (h1.2.2.2.2.1 f hf).move (Nat.le_refl _) (fun _ _ _ => rfl) (fun b _ h => h.elim), h2⟩)⟩
          have FIN := Lib.hid fin
          clear hta hfr fin hS1 hS2 hlt hj
          cases hac : S.ac
          · have HF2 := Lib.hid (show l.map fz = framesS ch t15 t35 evs by rw [HFR.out, hac, HLM.out]; simp)
            rw [hac] at q
            clear hac
            go_wp2
            exact bodyPost_ret (v := .tuple #[.slice Ao l.length co, .int .i64 0]) (by simp [results, Try.results13, go_sem]) rfl ⟨_, _, rfl, FIN.out _ _ _ _ _ _ HSP.out HF2.out⟩
          · obtain ⟨A2, c2, hv2, _, _⟩ := own_form HSP.out.1.2
            subst hv2
            rw [hac] at q
            have HTK := Lib.hid (take_any ch t15 t35 A2 S.xs.length c2 S.fi S.la S.fl S.ac S.lt S.id_ g wr HSP.out.1.1)
            have HF2 := Lib.hid (show ∀ f, fz f = S.frame → (l ++ [f]).map fz = framesS ch t15 t35 evs by intro f hf; rw [HFR.out, hac, List.map_append, HLM.out]; simp [hf])
            clear hac
            go_wp2_with fail
            refine HTK.out.mono ?_
            rintro e w3 ⟨rfl, hB3, hg3⟩
            obtain ⟨hs3, hf3⟩ := HSP.out.end_ (v' := .slice none 0 0) (S' := takeS S) ⟨hB3, rfl, .inl ⟨rfl, rfl⟩⟩ (.inl rfl) ((Chg.refl wr g none).grown hg3 (.inl rfl))
            have hb4 := (Below.refl w3.heap.size w3).alloc (Nat.le_refl _) (.cells #[.slice A2 S.xs.length c2, .int .i64 S.fi, .int .i64 S.la, .int .i64 S.fl] 46)
            have HS5 := Lib.hid (hs3.below hb4)
            have HF5 := Lib.hid (hf3.below hb4)
            clear hB3 hg3 hs3 hf3 hb4 q z lz
            go_wp2_with (at_builtin; refine wpList_appN (.tmp 65) (.tmp 68) 42 w.heap.size 46 _ 4 48 _ l.length (frCells l) (w3.heap.size + 1) (some ⟨w3.heap.size, 0, none⟩) 1 1 _ Try.underlying42 frInfo rfl (by decide) rfl rfl rfl rfl HS5.out.2.1 (Rd.lit rfl (Nat.lt_succ_self _)) (one_fr ⟨A2, S.xs.length, c2, S.xs, S.fi, S.la, S.fl⟩) (by have := HL0.out; omega) (by omega) (by have := HS5.out.2.2.2.2.2.2.size; exact this) ?_; intro vo' w6 hown6 hg6 hn6 hb6)
            have hs6 := HS5.out.app HF5.out hown6 hg6 hn6
            obtain ⟨Ao', co', hvo, _, _⟩ := own_form hown6
            subst hvo
            have HS6 := Lib.hid hs6
            clear hs6 hown6 hg6 hn6 hb6
            exact bodyPost_ret (v := .tuple #[.slice Ao' (l.length + 1) co', .int .i64 0]) (by simp [results, Try.results13, go_sem]) rfl ⟨_, _, rfl, by have h := FIN.out _ _ _ (l ++ [⟨A2, S.xs.length, c2, S.xs, S.fi, S.la, S.fl⟩]) Ao' co' (by rw [List.length_append]; exact HS6.out) (HF2.out _ rfl); rw [List.length_append] at h; exact h⟩
end Go.Proofs.Ytoliplochipoeaa

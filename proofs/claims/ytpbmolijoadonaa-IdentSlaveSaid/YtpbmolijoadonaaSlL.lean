/- The reference's device: a slave with identification. -/
import Derived.Test.YtpbmolijoadonaaSlK
import Derived.Test.YtpbmolijoadonaaRegX
import Derived.Test.YtpbmolijoadonaaRegG
import Derived.Test.YtpbmolijoadonaaRegH
import Derived.Test.YtpbmolijoadonaaSlM
import Derived.Deep.DeepCutAuto
set_option linter.unusedVariables false
set_option linter.unusedSimpArgs false
namespace Go.Proofs.Ytpbmolijoadonaa
open Go.RowKit

/-- The greatest number of objects, at most n, that take at most 246 bytes. -/
def cutN (l : List Ob) : Nat → Nat
  | 0 => 0
  | n + 1 => if sizeGo 0 (l.take (n + 1)) ≤ 246 then n + 1 else cutN l n
theorem cutN_le (l : List Ob) (n : Nat) : cutN l n ≤ n := by
  induction n with
  | zero => exact Nat.le_refl _
  | succ n ih => unfold cutN; split <;> omega
theorem cutN_pos (l : List Ob) (n : Nat) (hn : 0 < n) (h : sizeGo 0 (l.take 1) ≤ 246) : 0 < cutN l n := by
  induction n with
  | zero => omega
  | succ n ih =>
    unfold cutN
    split
    · omega
    · rename_i h2
      rcases Nat.eq_zero_or_pos n with h0 | h0
      · subst h0; exact absurd h h2
      · exact ih h0
theorem obCells_take (l : List Ob) (m : Nat) : obCells (l.take m) = (obCells l).take (m * 2) := by
  induction l generalizing m with
  | nil => simp [obCells]
  | cons e t ih =>
    rcases m with _ | m
    · simp [obCells]
    · have := ih m
      rw [show (m + 1) * 2 = m * 2 + 1 + 1 by omega]
      simpa [obCells, obRow] using this
theorem risGo_ids (p : Int) (l : List Ob) (h : risGo p l = true) : ∀ o ∈ l, 0 ≤ o.id ∧ o.id ≤ 255 := by
  induction l generalizing p with
  | nil => intro o ho; cases ho
  | cons y t ih =>
    simp only [risGo, Bool.and_eq_true, decide_eq_true_eq] at h
    intro o ho
    rcases List.mem_cons.1 ho with rfl | ho
    · exact ⟨h.1.1, h.1.2.1⟩
    · exact ih _ h.2 o ho
theorem objB_of {S : Sl} (h : objB S = true) : S.on_ ≤ 16 ∧ rising S.obs = true ∧ 3 ≤ S.on_ ∧ ∀ o ∈ S.obs, o.n ≤ 64 := by
  simp only [objB, Bool.and_eq_true, decide_eq_true_eq, List.all_eq_true] at h
  exact ⟨h.1.1.1.1.1.1, h.1.1.1.1.1.2, h.1.1.1.1.2, h.2⟩
/-- The reply of device, of a slave with identification. -/
def nextId (l : List Ob) (n : Nat) : Int := if n < l.length then (l[n]?.map Ob.id).getD 0 else 0
def DevOk (w w' : World) (S : Sl) (ask : Int) (e : Ending) : Prop :=
  Below w.heap.size w w' ∧
  ((filOb ask S.obs = [] ∧ e = .returned (.agg #[.int .i64 43, .int .i64 2, .slice none 0 0, .int .i64 0, .int .i64 0, .bool false, .int .i64 0, .slice none 0 0])) ∨
   (filOb ask S.obs ≠ [] ∧ ∃ (os : List Ob) (A : Option Addr) (c : Nat), e = .returned (.agg #[.int .i64 43, .int .i64 0, .slice none 0 0, .int .i64 3, .int .i64 S.lv, .bool (decide (cutN (filOb ask S.obs) (filOb ask S.obs).length < (filOb ask S.obs).length)), .int .i64 (nextId (filOb ask S.obs) (cutN (filOb ask S.obs) (filOb ask S.obs).length)), .slice A os.length c]) ∧
      os.length = cutN (filOb ask S.obs) (filOb ask S.obs).length ∧ os.map (fun o => (o.id, o.val)) = ((filOb ask S.obs).take os.length).map (fun o => (o.id, o.val)) ∧ Rd w' w'.heap.size 2 A os.length (obCells os) ∧ (∀ b off, A = some ⟨b, off, none⟩ → w.heap.size ≤ b) ∧ (∀ o ∈ os, Rd w' w'.heap.size 1 o.A o.n (by8 o.val) ∧ ∀ b off, o.A = some ⟨b, off, none⟩ → w.heap.size ≤ b)))
set_option maxRecDepth 100000 in
set_option maxHeartbeats 16000000 in
theorem device_some (S : Sl) (ask : Int) (w : World) (hok : S.ok w w.heap.size) (hob : objB S = true) (h0 : S.lv ≠ 0) (ha : 0 ≤ ask ∧ ask ≤ 255) :
    Calls Try.prog 34 #[slV S, sqv 43 0 0 3 ask] w fun e w' => DevOk w w' S ask e := by
  obtain ⟨h16, hris, h3, h64⟩ := objB_of hob
  have hids := risGo_ids (-1) S.obs hris
  obtain ⟨lv, hlv⟩ : ∃ z, S.lv = z := ⟨_, rfl⟩
  obtain ⟨on, hon⟩ : ∃ z, S.on_ = z := ⟨_, rfl⟩
  rw [hlv] at h0
  rw [hon] at h16 h3
  have hro := hok.2.1
  rw [hon] at hro
  have HRO := Lib.hid hro
  have HOL := Lib.hid hro.solen
  have HIDS := Lib.hid hids
  have H64 := Lib.hid h64
  have HOK := Lib.hid hok
  have hst := dv_start S ask w
  obtain ⟨W1, hW1⟩ : ∃ W, ((((w.alloc (.cells (slCells S) 59)).alloc (.cells #[.int .i64 43, .int .i64 0, .int .i64 0, .int .i64 3, .int .i64 ask] 32)).alloc (.cells #[.int .i64 0, .int .i64 0, .slice none 0 0, .int .i64 0, .int .i64 0, .bool false, .int .i64 0, .slice none 0 0] 42)).alloc (.cells #[.int .i64 43, .int .i64 0, .slice none 0 0, .int .i64 0, .int .i64 0, .bool false, .int .i64 0, .slice none 0 0] 42)) = W := ⟨_, rfl⟩
  rw [hW1] at hst
  have HST := Lib.hid hst
  have HW1 := Lib.hid hW1
  have HCL := Lib.hid (fun (x : World) (rep : Array Value) (h : DvS w x S ask rep) => show (x.cell? ⟨w.heap.size, 15, none⟩ = some (.int .i64 lv) ∧ x.cell? ⟨w.heap.size, 16, none⟩ = some (.slice S.oA on S.oc) ∧ x.cell? ⟨w.heap.size + 1, 3, none⟩ = some (.int .i64 3) ∧ x.cell? ⟨w.heap.size + 1, 4, none⟩ = some (.int .i64 ask)) from by
    rw [← hlv, ← hon]; exact ⟨h.1.1 15, h.1.1 16, h.2.1.1 3, h.2.1.1 4⟩)
  obtain ⟨c15, c16, e3, e4⟩ := HCL.out _ _ hst
  have hgl := hst.1.2.2
  have hgl1 := hst.2.1.2.2
  have HLVE := Lib.hid hlv
  have d0 : (lv == 0) = false := by simpa using h0
  have HH := Lib.hid (And.intro h16 h3)
  clear hst hW1 hlv hon hro hok hob hris hids h64 h0 h16 h3
  go_enter Try.func34, Try.ntmps34
  go_upto_region 2 with fail
  rw [HW1.out]
  have e1 : w.heap.size + 1 + 1 = w.heap.size + 2 := by omega
  have e2 : w.heap.size + 1 + 1 + 1 = w.heap.size + 3 := by omega
  try simp only [e1, e2]
  clear e1 e2
  have hba := (Below.refl W1.heap.size W1).alloc (Nat.le_refl _) (.cells #[.int .i64 0, .int .i64 2, .int .i64 127, .int .i64 255] 3)
  have HS1 := Lib.hid (HST.out.below hba)
  have HSZ := Lib.hid (show w.heap.size + 4 ≤ (W1.alloc (.cells #[.int .i64 0, .int .i64 2, .int .i64 127, .int .i64 255] 3)).heap.size by have := HST.out.2.2.2.1.2.2; simp; omega)
  clear hba
  go_wp2_with fail
  go_loopw [7, 8] (fun lvv iv x => ∃ (k : Nat) (A : Option Addr) (m c : Nat), lvv = .slice A m c ∧ iv = .int .i64 k ∧ k ≤ on ∧ m = (filOb ask (S.obs.take k)).length ∧ x.ownsRow (w.heap.size + 4) 48 2 (.slice A m c) m (obCells (filOb ask (S.obs.take k))) ∧ DvS w x S ask #[.int .i64 43, .int .i64 0, .slice none 0 0, .int .i64 0, .int .i64 0, .bool false, .int .i64 0, .slice none 0 0]) (fun _ iv _ => on - (intOf iv).toNat)
  case atStart => exact ⟨0, none, 0, 0, rfl, rfl, by omega, rfl, ⟨rfl, .inl ⟨rfl, rfl⟩⟩, HS1.out⟩
  case round =>
    obtain ⟨k, A, m, c, rfl, rfl, hk, hm, hown, hds⟩ := hrel
    have HM := Lib.hid hm
    have HOW := Lib.hid hown
    have HDS := Lib.hid hds
    clear hm hown hds c15 c16 e3 e4
    obtain ⟨c15, c16, e3, e4⟩ := HCL.out _ _ HDS.out
    have hgl := HDS.out.1.2.2
    by_cases hlt : k < on
    · obtain ⟨bo, oo, hA, hbo, hk', o0, o1⟩ := sob_at (HRO.out.below HDS.out.2.2.2.2 (Nat.le_refl _)) k hlt
      have htk := List.take_succ_eq_append_getElem hk'
      have hidb := HIDS.out _ (List.getElem_mem hk')
      obtain ⟨o, ho⟩ : ∃ o, S.obs[k] = o := ⟨_, rfl⟩
      rw [ho] at o0 o1 htk hidb
      have HTK := Lib.hid (show filOb ask (S.obs.take (k + 1)) = filOb ask (S.obs.take k) ++ (if decide (ask ≤ o.id) && decide (o.id ≤ 255) then [o] else []) by rw [htk, filOb_snoc])
      obtain ⟨oid, oA, on2, oc, oval⟩ := o
      dsimp only at o0 o1 hidb
      rw [hA] at c16
      have HAA := Lib.hid hA
      have HLT := Lib.hid hlt
      have hml : m ≤ 16 := by
        have h1 := filOb_len ask (S.obs.take k)
        have h2 : (S.obs.take k).length ≤ k := by simp; omega
        have h3 := HM.out
        have h4 := HH.out.1
        omega
      have HML := Lib.hid hml
      have kw : IntKind.i64.wrap ((k : Int) + 1) = (k : Int) + 1 := IntWalk.i64_in _ ⟨by omega, by have := HH.out.1; omega⟩
      have d2 : decide (oid ≤ 255) = true := by simpa using hidb.2
      clear htk ho hk' hA hml hidb
      by_cases h1 : ask ≤ oid
      · have d1 : decide (ask ≤ oid) = true := by simpa using h1
        have HT2 := Lib.hid (show filOb ask (S.obs.take (k + 1)) = filOb ask (S.obs.take k) ++ [⟨oid, oA, on2, oc, oval⟩] by rw [HTK.out]; simp only [d1, d2]; rfl)
        clear h1
        go_upto_region 10 with fail
        go_quiet (fail)
        have HB3 := Lib.hid (fun (n : Nat) => show Below wr.heap.size wr ((wr.drewN n).alloc (.cells #[.int .i64 oid, .slice oA on2 oc] 48)) from (below_drewN (Below.refl wr.heap.size wr) n).alloc (Nat.le_refl _) _)
        have hsw : w.heap.size + 4 ≤ wr.heap.size := by have := HDS.out.2.2.2.1.2.2; omega
        have HSW := Lib.hid hsw
        clear hsw
        go_wp2_with (at_builtin; refine wpList_appN (.tmp 48) (.tmp 54) 28 (w.heap.size + 4) 48 _ 2 32 _ m (obCells (filOb ask (S.obs.take k))) (wr.heap.size + 1) (some ⟨wr.heap.size, 0, none⟩) 1 1 [.int .i64 oid, .slice oA on2 oc] Try.underlying28 obInfo2 rfl (by decide) rfl rfl rfl rfl (own_below HOW.out (HB3.out _) (Nat.le_refl _)) (Rd.lit rfl (Nat.lt_succ_self _)) (one_ob2 _ _ _ _) (by have := HML.out; omega) (by omega) (by have := HSW.out; have := (HB3.out 0).size; simp at this ⊢; omega) ?_; intro vo' w6 hown6 hg6 hn6 hb6; obtain ⟨A3, c3, hv3, h91, h92⟩ := own_form hown6; subst hv3; clear h91 h92)
        have HW6 := Lib.hid ((HDS.out.below (HB3.out _)).row (own_below HOW.out (HB3.out _) (Nat.le_refl _)) (Nat.le_refl _) hg6)
        have HO6 := Lib.hid (show w6.ownsRow (w.heap.size + 4) 48 2 (.slice A3 (m + 1) c3) (m + 1) (obCells (filOb ask (S.obs.take (k + 1)))) by rw [HT2.out, sobCells_snoc]; exact hown6)
        clear hown6 hg6 hn6 hb6
        go_roundw
        case rel => exact ⟨k + 1, A3, m + 1, c3, rfl, by go_num, by have := HLT.out; omega, by rw [HT2.out, List.length_append, ← HM.out]; rfl, HO6.out, HW6.out⟩
        case measure => simp [intOf]; have := HLT.out; omega
      · have d1 : decide (ask ≤ oid) = false := by simpa using h1
        have HT2 := Lib.hid (show filOb ask (S.obs.take (k + 1)) = filOb ask (S.obs.take k) by rw [HTK.out]; simp only [d1]; simp)
        clear h1
        go_upto_region 10 with fail
        go_quiet (fail)
        go_wp2_with fail
        go_roundw
        case rel => exact ⟨k + 1, A, m, c, rfl, by go_num, by have := HLT.out; omega, by rw [HT2.out]; exact HM.out, by rw [HT2.out]; exact HOW.out, by first | exact HDS.out | exact HDS.out.below (below_drew (Below.refl _ _)) | exact HDS.out.below (below_drewN (Below.refl _ _) _)⟩
        case measure => simp [intOf]; have := HLT.out; omega
    · obtain rfl : k = on := by omega
      have hta : S.obs.take k = S.obs := List.take_of_length_le (by rw [HOL.out]; exact Nat.le_refl _)
      rw [hta] at HM HOW
      obtain ⟨fil, hfil⟩ : ∃ l, filOb ask S.obs = l := ⟨_, rfl⟩
      rw [hfil] at HM HOW
      have hf64 : ∀ o ∈ fil, o.n ≤ 64 := fun o ho => H64.out o (by rw [← hfil] at ho; exact (List.mem_filter.1 ho).1)
      have hml : m ≤ 16 := by
        have h1 := filOb_len ask S.obs
        have h3 := HM.out
        have h4 := HH.out.1
        have h5 := HOL.out
        rw [hfil] at h1
        omega
      have HFIL := Lib.hid hfil
      have HF64 := Lib.hid hf64
      have HML := Lib.hid hml
      clear hta hfil hf64 hml hlt hk c15 e3 e4
      obtain ⟨q5, z5, l5⟩ := HDS.out.2.2.2.1
      obtain ⟨q4, z4, l4⟩ := HDS.out.2.2.1
      have hne : ¬ (w.heap.size + 2 = w.heap.size + 3) := by omega
      by_cases hm0 : m = 0
      · subst hm0
        have HS1 := Lib.hid (HDS.out.set (k := 1) (u := .int .i64 2) (rep' := #[.int .i64 43, .int .i64 2, .slice none 0 0, .int .i64 0, .int .i64 0, .bool false, .int .i64 0, .slice none 0 0]) (by simp) rfl)
        have HBZ := Lib.hid (box_put8 HS1.out.2.2.1 (.int .i64 43) (.int .i64 2) (.slice none 0 0) (.int .i64 0) (.int .i64 0) (.bool false) (.int .i64 0) (.slice none 0 0))
        have HWZ := Lib.hid (below_put8 HS1.out.2.2.2.2 (show w.heap.size ≤ w.heap.size + 2 by omega) (.int .i64 43) (.int .i64 2) (.slice none 0 0) (.int .i64 0) (.int .i64 0) (.bool false) (.int .i64 0) (.slice none 0 0))
        go_wp2
        obtain ⟨qz, zz, lz⟩ := HBZ.out
        exact bodyPost_ret (v := .agg #[.int .i64 43, .int .i64 2, .slice none 0 0, .int .i64 0, .int .i64 0, .bool false, .int .i64 0, .slice none 0 0]) (by simp [results, Try.results34, go_sem, qz, zz, lz]) rfl ⟨HWZ.out, .inl ⟨by rw [HFIL.out]; exact List.eq_nil_of_length_eq_zero HM.out.symm, rfl⟩⟩
      · have d1 : ((m : Int) == 0) = false := by simp; omega
        have d1n : (m == 0) = false := by simpa using hm0
        have HPOS := Lib.hid (show 0 < m by omega)
        have hrf := Rd.of_own HOW.out
        have HRF := Lib.hid hrf
        clear hrf
        go_wp2_with fail
        clear c16 d1 d1n q5 z5 l5 q4 z4 l4 hne
        go_loopw [9] (fun nv x => ∃ j : Nat, j ≤ m ∧ nv = .int .i64 j ∧ cutN fil m = cutN fil j ∧ wr = x) (fun nv _ => (intOf nv).toNat)
        case atStart => exact ⟨m, Nat.le_refl _, rfl, rfl, by trivial⟩
        case round =>
          obtain ⟨j, hj, rfl, hcut2, rfl⟩ := hrel
          have HJ := Lib.hid hj
          have HC2 := Lib.hid hcut2
          clear hcut2
          have hrj : Rd wr wr.heap.size 2 A j (obCells (fil.take j)) := by
            have h := HRF.out.take (k := j) HJ.out
            rw [show (obCells fil).take (j * 2) = obCells (fil.take j) from (obCells_take fil j).symm] at h
            exact h
          obtain ⟨sz, hsz⟩ : ∃ z, sizeGo 0 (fil.take j) = z := ⟨_, rfl⟩
          have HSZ2 := Lib.hid (fun c => rsize_any (fil.take j) A j c wr.heap.size wr hrj (by have := HML.out; have := HJ.out; omega) (fun o ho => HF64.out o (List.mem_of_mem_take ho)) sz hsz)
          have HSZV := Lib.hid hsz
          have hjc : j ≤ c := by
            obtain ⟨A9, c9, hv9, h91, _⟩ := own_form HOW.out
            injection hv9 with _ _ hc9
            have := HJ.out; omega
          clear hrj hsz
          go_wp2_with fail
          refine (HSZ2.out _).mono ?_
          rintro e w' ⟨rfl, rfl⟩
          by_cases h6 : 246 < sz
          · have d2 : decide (246 < sz) = true := by simpa using h6
            have hj0 : 0 < j := by
              rcases Nat.eq_zero_or_pos j with h | h
              · subst h; have := HSZV.out; simp [sizeGo] at this; omega
              · exact h
            obtain ⟨i, hi⟩ : ∃ i, j = i + 1 := ⟨j - 1, by omega⟩
            have HN := Lib.hid (show cutN fil m = cutN fil i by
              rw [HC2.out, hi, cutN, if_neg]
              rw [← hi, HSZV.out]; omega)
            have k1 : IntKind.i64.wrap ((j : Int) - 1) = (i : Int) := by rw [hi, show ((i + 1 : Nat) : Int) - 1 = (i : Int) by omega]; exact IntWalk.i64_in _ ⟨by omega, by have := HJ.out; have := HML.out; omega⟩
            have HIJ := Lib.hid hi
            clear hi h6 hj0
            go_wp2_with fail
            go_roundw
            case rel => exact ⟨i, by have := HIJ.out; have := HJ.out; omega, by go_num, HN.out, by trivial⟩
            case measure => simp [intOf]; have := HIJ.out; omega
          · have d2 : decide (246 < sz) = false := by simpa using h6
            have HCN := Lib.hid (show cutN fil m = j by
              rw [HC2.out]
              rcases j with _ | i
              · rfl
              · rw [cutN, if_pos]; rw [HSZV.out]; omega)
            clear h6
            obtain ⟨c15, c16, e3, e4⟩ := HCL.out _ _ HDS.out
            have hgl1 := HDS.out.2.1.2.2
            go_upto_region 18 with fail
            go_cut [] (fun x => DvS w x S ask #[.int .i64 43, .int .i64 0, .slice none 0 0, .int .i64 3, .int .i64 lv, .bool false, .int .i64 0, .slice none 0 0] ∧ x.ownsRow (w.heap.size + 4) 48 2 (.slice A m c) m (obCells fil))
            case first =>
              have HLS := Lib.hid (HDS.out.below (below_drew (Below.refl _ _)))
              have HOX := Lib.hid (own_below HOW.out (below_drew (Below.refl wr.heap.size wr)) (Nat.le_refl _))
              obtain ⟨x0, hx0⟩ : ∃ x, wr.drew = x := ⟨_, rfl⟩
              rw [hx0] at HLS HOX
              obtain ⟨y15, y16, y3, y4⟩ := HCL.out _ _ HLS.out
              have hg0 := HLS.out.1.2.2
              have hg1 := HLS.out.2.1.2.2
              have hn0 : ¬ (w.heap.size = w.heap.size + 3) := by omega
              have hn1 : ¬ (w.heap.size + 1 = w.heap.size + 3) := by omega
              clear y16 y4 c15 c16 e3 e4
              refine rgx_start_x (X := fun b => b = w.heap.size + 3) (by kernel_rfl) ?_
              rw [hx0]
              refine rgx_t (v := ?_) (some 70) 0 (by kernel_rfl) rfl rfl (.inl ⟨by rfl, fun w' q => ?_⟩) ?_
              rotate_left
              · go_simp <;> with_reducible rfl
              try simp only [Act.put, List.setIfInBounds_toArray, List.set_cons_zero, List.set_cons_succ]
              refine rgx_t (v := ?_) (some 71) 1 (by kernel_rfl) rfl rfl (.inl ⟨by rfl, fun w' q => ?_⟩) ?_
              rotate_left
              · go_simp <;> with_reducible rfl
              try simp only [Act.put, List.setIfInBounds_toArray, List.set_cons_zero, List.set_cons_succ]
              refine rgx_t (v := ?_) (some 72) 2 (by kernel_rfl) rfl rfl (.inl ⟨by rfl, fun w' q => ?_⟩) ?_
              rotate_left
              · go_simp <;> with_reducible rfl
              try simp only [Act.put, List.setIfInBounds_toArray, List.set_cons_zero, List.set_cons_succ]
              refine rgx_t (v := ?_) (some 73) 3 (by kernel_rfl) rfl rfl (.inl ⟨by rfl, fun w' q => ?_⟩) ?_
              rotate_left
              · go_simp <;> with_reducible rfl
              try simp only [Act.put, List.setIfInBounds_toArray, List.set_cons_zero, List.set_cons_succ]
              refine rgx_t (v := ?_) (some 74) 4 (by kernel_rfl) rfl rfl (.inl ⟨by rfl, fun w' q => ?_⟩) ?_
              rotate_left
              · go_simp <;> with_reducible rfl
              try simp only [Act.put, List.setIfInBounds_toArray, List.set_cons_zero, List.set_cons_succ]
              refine rgx_1 5 (by kernel_rfl) ?_
              refine ⟨_, rfl, by rfl, fun K hK => ?_⟩
              obtain ⟨q4, z4, l4⟩ := HLS.out.2.2.2.1
              go_simp
              first | have hLs := HLS.out.set (k := 3) (u := .int .i64 3) (rep' := #[.int .i64 43, .int .i64 0, .slice none 0 0, .int .i64 3, .int .i64 0, .bool false, .int .i64 0, .slice none 0 0]) (by simp) rfl | have hLs := HLS.out.set (k := 3) (u := .int .i64 3) (rep' := #[.int .i64 43, .int .i64 0, .slice none 0 0, .int .i64 3, .int .i64 lv, .bool false, .int .i64 0, .slice none 0 0]) (by simp) rfl
              have how := ownsRow_setCell_below HOX.out (a := ⟨w.heap.size + 3, 3, none⟩) (show w.heap.size + 3 < w.heap.size + 4 by omega) (.int .i64 3)
              have hm : Mem (fun b => b = w.heap.size + 3) x0 (x0.setCell ⟨w.heap.size + 3, 3, none⟩ (.int .i64 3)) := (Mem.refl _ _).of_set rfl
              obtain ⟨x1, hW⟩ : ∃ W, (x0.setCell ⟨w.heap.size + 3, 3, none⟩ (.int .i64 3)) = W := ⟨_, rfl⟩
              rw [hW] at hLs hm how ⊢
              refine hK (fun b => b = w.heap.size + 3) _ _ (fun b h => .inl h) hm ?_
              have HLS := Lib.hid hLs
              have HOX := Lib.hid how
              clear q4 z4 l4 hm hLs how hW
              clear hK K
              try simp only [Act.put, List.setIfInBounds_toArray, List.set_cons_zero, List.set_cons_succ]
              refine rgx_t (v := ?_) (some 75) 6 (by kernel_rfl) rfl rfl (.inl ⟨by rfl, fun w' q => ?_⟩) ?_
              rotate_left
              · go_simp <;> with_reducible rfl
              try simp only [Act.put, List.setIfInBounds_toArray, List.set_cons_zero, List.set_cons_succ]
              refine rgx_1 7 (by kernel_rfl) ?_
              refine ⟨_, rfl, by rfl, fun K hK => ?_⟩
              obtain ⟨q4, z4, l4⟩ := HLS.out.2.2.2.1
              go_simp
              first | have hLs := HLS.out.set (k := 4) (u := .int .i64 lv) (rep' := #[.int .i64 43, .int .i64 0, .slice none 0 0, .int .i64 0, .int .i64 lv, .bool false, .int .i64 0, .slice none 0 0]) (by simp) rfl | have hLs := HLS.out.set (k := 4) (u := .int .i64 lv) (rep' := #[.int .i64 43, .int .i64 0, .slice none 0 0, .int .i64 3, .int .i64 lv, .bool false, .int .i64 0, .slice none 0 0]) (by simp) rfl
              have how := ownsRow_setCell_below HOX.out (a := ⟨w.heap.size + 3, 4, none⟩) (show w.heap.size + 3 < w.heap.size + 4 by omega) (.int .i64 lv)
              have hm : Mem (fun b => b = w.heap.size + 3) x1 (x1.setCell ⟨w.heap.size + 3, 4, none⟩ (.int .i64 lv)) := (Mem.refl _ _).of_set rfl
              obtain ⟨x2, hW⟩ : ∃ W, (x1.setCell ⟨w.heap.size + 3, 4, none⟩ (.int .i64 lv)) = W := ⟨_, rfl⟩
              rw [hW] at hLs hm how ⊢
              refine hK (fun b => b = w.heap.size + 3) _ _ (fun b h => .inl h) hm ?_
              have HLS := Lib.hid hLs
              have HOX := Lib.hid how
              clear q4 z4 l4 hm hLs how hW
              clear hK K
              try simp only [Act.put, List.setIfInBounds_toArray, List.set_cons_zero, List.set_cons_succ]
              refine rgx_d (by kernel_rfl) ?_
              go_wp2_with fail
              go_meet
              case rel => exact ⟨HLS.out, HOX.out⟩
            case rest =>
              obtain ⟨hds, how⟩ := hcut
              have HD2 := Lib.hid hds
              have HO2 := Lib.hid how
              clear hds how c15 c16 e3 e4 HDS HOW
              have hd3 : D3 w wc S ask lv (.slice A m c) m fil (.slice none 0 0) [] (.slice none 0 0) := ⟨HD2.out, HO2.out, ⟨rfl, .inl ⟨rfl, rfl⟩⟩, (fun b hb => by cases hb), (fun o ho => by cases ho)⟩
              have HD3 := Lib.hid hd3
              have HAG := Lib.hid ha
              clear hd3 HD2 HO2 HRF hgl1 hgl ha d2
              go_wp2_with fail
              go_loopw [10] (fun iv x => ∃ (i : Nat) (os : List Ob) (Ar : Option Addr) (cr : Nat), iv = .int .i64 i ∧ i ≤ j ∧ os.length = i ∧ os.map (fun o => (o.id, o.val)) = (fil.take i).map (fun o => (o.id, o.val)) ∧ D3 w x S ask lv (.slice A m c) m fil (.slice Ar i cr) os (.slice Ar i cr)) (fun iv _ => j - (intOf iv).toNat)
              case atStart => exact ⟨0, [], none, 0, rfl, by omega, rfl, rfl, HD3.out⟩
              case round =>
                obtain ⟨i, os, Ar, cr, rfl, hi, hol, hmap, hd3⟩ := hrel
                have HOL3 := Lib.hid hol
                have HMAP := Lib.hid hmap
                have HD4 := Lib.hid hd3
                clear hol hmap hd3
                by_cases hlt : i < j
                · have HLT := Lib.hid hlt
                  have him : i < m := by have := HJ.out; omega
                  obtain ⟨bf, of_, hAf, hbf, hk', o0, o1⟩ := sob_at (Rd.of_own HD4.out.2.1) i him
                  have htk := List.take_succ_eq_append_getElem hk'
                  have hmem := List.getElem_mem hk'
                  obtain ⟨o, ho⟩ : ∃ o, fil[i] = o := ⟨_, rfl⟩
                  rw [ho] at o0 o1 htk hmem
                  have hmo : o ∈ S.obs := by
                    rw [← HFIL.out] at hmem; exact (List.mem_filter.1 hmem).1
                  have hov := HOK.out.2.2.1 o hmo
                  have hov2 := HF64.out o hmem
                  obtain ⟨oid, oA, on2, oc, oval⟩ := o
                  dsimp only at o0 o1 hov2
                  have hvr : Rd w w.heap.size 1 oA on2 (by8 oval) := hov.1
                  have hvl : oval.length = on2 := by have := hvr.1; simpa using this
                  subst hAf
                  have hbf4 : w.heap.size + 4 ≤ bf := (HD4.out.2.1.lt bf rfl).1
                  obtain ⟨rw1, hrw⟩ : ∃ r, (Value.slice Ar i cr).ownBlock = r := ⟨_, rfl⟩
                  have HRW := Lib.hid hrw
                  have hbxn : ¬ (bf = w.heap.size + 3 ∨ some bf = rw1) := by
                    rintro (h | h)
                    · omega
                    · exact HD4.out.2.2.2.1 bf (by rw [hrw]; exact h.symm) rfl
                  have HTK := Lib.hid htk
                  have HVR := Lib.hid hvr
                  have HOV := Lib.hid (And.intro hov2 hvl)
                  have HIM := Lib.hid him
                  have kw : IntKind.i64.wrap ((i : Int) + 1) = (i : Int) + 1 := IntWalk.i64_in _ ⟨by omega, by have := HML.out; omega⟩
                  clear htk hmem ho hmo hov hov2 hvr hvl hbf4 hk' hrw
                  go_upto_region 22 with fail
                  have HLS := Lib.hid (HD4.out.below (below_drew (Below.refl _ _)))
                  obtain ⟨x0, hx0⟩ : ∃ x, wr.drew = x := ⟨_, rfl⟩
                  rw [hx0] at HLS
                  have y0 : x0.cell? ⟨bf, of_ + i * 2, none⟩ = some (.int .i64 oid) := by rw [← hx0]; exact o0
                  have y1 : x0.cell? ⟨bf, of_ + i * 2 + 1, none⟩ = some (.slice oA on2 oc) := by rw [← hx0]; exact o1
                  have hbx : bf < x0.heap.size := by rw [← hx0]; exact hbf
                  clear o0 o1 hbf
                  refine rgx_start_x (X := fun b => b = w.heap.size + 3 ∨ some b = rw1) (by kernel_rfl) ?_
                  rw [hx0]
                  refine rgx_t (v := ?_) (some 81) 0 (by kernel_rfl) rfl rfl (.inl ⟨by rfl, fun w' q => ?_⟩) ?_
                  rotate_left
                  · go_simp <;> with_reducible rfl
                  try simp only [Act.put, List.setIfInBounds_toArray, List.set_cons_zero, List.set_cons_succ]
                  refine rgx_t (v := ?_) (some 83) 2 (by kernel_rfl) rfl rfl (.inl ⟨by rfl, fun w' q => ?_⟩) ?_
                  rotate_left
                  · go_simp <;> with_reducible rfl
                  try simp only [Act.put, List.setIfInBounds_toArray, List.set_cons_zero, List.set_cons_succ]
                  refine rgx_t (v := ?_) (some 84) 3 (by kernel_rfl) rfl rfl (.inl ⟨by rfl, fun w' q => ?_⟩) ?_
                  rotate_left
                  · go_simp <;> with_reducible rfl
                  try simp only [Act.put, List.setIfInBounds_toArray, List.set_cons_zero, List.set_cons_succ]
                  refine rgx_t (v := ?_) (some 85) 4 (by kernel_rfl) rfl rfl (.inl ⟨by rfl, fun w' q => ?_⟩) ?_
                  rotate_left
                  · go_simp <;> with_reducible rfl
                  try simp only [Act.put, List.setIfInBounds_toArray, List.set_cons_zero, List.set_cons_succ]
                  refine rgx_t (v := ?_) (some 86) 5 (by kernel_rfl) rfl rfl (.inl ⟨by rfl, fun w' q => ?_⟩) ?_
                  rotate_left
                  · go_simp <;> with_reducible rfl
                  try simp only [Act.put, List.setIfInBounds_toArray, List.set_cons_zero, List.set_cons_succ]
                  refine rgx_t (v := ?_) (some 87) 6 (by kernel_rfl) rfl rfl (.inl ⟨by rfl, fun w' q => ?_⟩) ?_
                  rotate_left
                  · go_simp <;> with_reducible rfl
                  try simp only [Act.put, List.setIfInBounds_toArray, List.set_cons_zero, List.set_cons_succ]
                  refine rgx_t (v := ?_) (some 88) 7 (by kernel_rfl) rfl rfl (.inl ⟨by rfl, fun w' q => ?_⟩) ?_
                  rotate_left
                  · go_simp <;> with_reducible rfl
                  try simp only [Act.put, List.setIfInBounds_toArray, List.set_cons_zero, List.set_cons_succ]
                  refine rgx_t (v := ?_) (some 89) 8 (by kernel_rfl) rfl rfl (.inl ⟨by rfl, fun w' q => ?_⟩) ?_
                  rotate_left
                  · go_simp <;> with_reducible rfl
                  try simp only [Act.put, List.setIfInBounds_toArray, List.set_cons_zero, List.set_cons_succ]
                  refine rgx_t (v := ?_) (some 90) 9 (by kernel_rfl) rfl rfl (.inl ⟨by rfl, fun w' q => ?_⟩) ?_
                  rotate_left
                  · go_simp <;> with_reducible rfl
                  try simp only [Act.put, List.setIfInBounds_toArray, List.set_cons_zero, List.set_cons_succ]
                  refine rgx_t (v := ?_) (some 91) 10 (by kernel_rfl) rfl rfl (.inl ⟨by rfl, fun w' q => ?_⟩) ?_
                  rotate_left
                  · go_simp <;> with_reducible rfl
                  try simp only [Act.put, List.setIfInBounds_toArray, List.set_cons_zero, List.set_cons_succ]
                  refine rgx_t (v := ?_) (some 92) 11 (by kernel_rfl) rfl rfl (.inl ⟨by rfl, fun w' q => ?_⟩) ?_
                  rotate_left
                  · go_simp <;> with_reducible rfl
                  try simp only [Act.put, List.setIfInBounds_toArray, List.set_cons_zero, List.set_cons_succ]
                  refine rgx_2 1 12 (by kernel_rfl) ?_ ?_
                  · refine ⟨_, rfl, by rfl, fun K hK => ?_⟩
                    obtain ⟨q4, z4, l4⟩ := HLS.out.1.2.2.2.1
                    go_simp
                    obtain ⟨x1, hE⟩ : ∃ W : World, W = x0 := ⟨_, rfl⟩
                    subst hE
                    refine hK (fun b => b = w.heap.size + 3 ∨ some b = rw1) _ _ (fun b h => .inl h) (Mem.refl _ _) ?_
                    clear q4 z4 l4
                    clear hK K
                    try simp only [Act.put, List.setIfInBounds_toArray, List.set_cons_zero, List.set_cons_succ]
                    refine rgx_1 12 (by kernel_rfl) ?_
                    refine ⟨_, rfl, by rfl, fun K hK => ?_⟩
                    refine wp_appO (.const (.slice none 0 0)) (.tmp 92) 40 x1.heap.size 5 _ 1 1 _ 0 [] _ oA on2 oc (by8 oval) Try.underlying40 byteInfo rfl (by decide) rfl rfl rfl (World.ownsRow_nil _ _ _ _) (HVR.out.below HLS.out.1.2.2.2.2 (Nat.le_refl _)) (one_ints .u8 oval) (by have := HOV.out; omega) (by omega) (Nat.le_refl _) ?_
                    intro v1 x2 hown1 hg1 hn1 hb1
                    simp only [Nat.zero_add, List.nil_append] at hown1
                    obtain ⟨A1, c1, hv1, h91, h92⟩ := own_form hown1
                    subst hv1
                    have HNV := Lib.hid (show Rd x2 x2.heap.size 1 A1 on2 (by8 oval) ∧ ∀ b off, A1 = some ⟨b, off, none⟩ → w.heap.size + 4 ≤ b ∧ b < x2.heap.size ∧ some b ≠ rw1 from ⟨h92, fun b off e => by
                      subst e
                      have h1 := hown1.lt b rfl
                      have h2 := HLS.out.1.2.2.2.1.2.2
                      refine ⟨by omega, h1.2, fun e2 => ?_⟩
                      have h3 := HLS.out.2.2.1.lt b (by rw [HRW.out]; exact e2.symm)
                      omega⟩)
                    have HLS := Lib.hid (HLS.out.below hb1)
                    refine hK (fun b => b = w.heap.size + 3 ∨ some b = rw1) _ _ (fun b h => .inl h) (Mem.of_below hb1) ?_
                    clear hown1 hg1 hn1 hb1 h91 h92
                    clear hK K
                    try simp only [Act.put, List.setIfInBounds_toArray, List.set_cons_zero, List.set_cons_succ]
                    refine rgx_t (v := ?_) (some 94) 13 (by kernel_rfl) rfl rfl (.inl ⟨by rfl, fun w' q => ?_⟩) ?_
                    rotate_left
                    · go_simp <;> with_reducible rfl
                    try simp only [Act.put, List.setIfInBounds_toArray, List.set_cons_zero, List.set_cons_succ]
                    refine rgx_1 14 (by kernel_rfl) ?_
                    refine ⟨_, rfl, by rfl, fun K hK => ?_⟩
                    go_simp
                    have hb := (Below.refl x2.heap.size x2).alloc (Nat.le_refl _) (.cells #[.int .i64 oid, .slice A1 on2 c1] 48)
                    obtain ⟨bl, hbl2⟩ : ∃ bl, x2.heap.size = bl := ⟨_, rfl⟩
                    have hRl : Rd (x2.alloc (.cells #[.int .i64 oid, .slice A1 on2 c1] 48)) (bl + 1) 2 (some ⟨bl, 0, none⟩) 1 [.int .i64 oid, .slice A1 on2 c1] := by rw [← hbl2]; exact Rd.lit rfl (Nat.lt_succ_self _)
                    have HLS := Lib.hid (HLS.out.below hb)
                    have HNV := Lib.hid (show Rd (x2.alloc (.cells #[.int .i64 oid, .slice A1 on2 c1] 48)) (x2.alloc (.cells #[.int .i64 oid, .slice A1 on2 c1] 48)).heap.size 1 A1 on2 (by8 oval) ∧ ∀ b off, A1 = some ⟨b, off, none⟩ → w.heap.size + 4 ≤ b ∧ b < (x2.alloc (.cells #[.int .i64 oid, .slice A1 on2 c1] 48)).heap.size ∧ some b ≠ rw1 from ⟨(HNV.out.1.below hb (Nat.le_refl _)).more hb.size, fun b off e => by obtain ⟨h1, h2, h3⟩ := HNV.out.2 b off e; exact ⟨h1, Nat.lt_of_lt_of_le h2 hb.size, h3⟩⟩)
                    obtain ⟨x3, hW⟩ : ∃ W, x2.alloc (.cells #[.int .i64 oid, .slice A1 on2 c1] 48) = W := ⟨_, rfl⟩
                    rw [hW] at HLS HNV hRl hb ⊢
                    rw [hbl2]
                    refine hK (fun b => b = w.heap.size + 3 ∨ some b = rw1) _ _ (fun b h => .inl h) (Mem.of_below hb) ?_
                    have HRL := Lib.hid hRl
                    have HBL := Lib.hid (show bl < x3.heap.size by have := hb.size; rw [← hbl2, ← hW]; simp)
                    clear hb hbl2 hRl hW
                    clear hK K
                    try simp only [Act.put, List.setIfInBounds_toArray, List.set_cons_zero, List.set_cons_succ]
                    refine rgx_1 15 (by kernel_rfl) ?_
                    refine ⟨_, rfl, by rfl, fun K hK => ?_⟩
                    refine wp_appR (.tmp 82) (.tmp 95) 28 (w.heap.size + 4) 48 _ 2 32 (.slice Ar i cr) i (obCells os) _ ⟨bl, 0, none⟩ 1 1 [.int .i64 oid, .slice A1 on2 c1] Try.underlying28 obInfo2 rfl (by decide) rfl rfl rfl (by have h := HLS.out.2.2.1; rw [HOL3.out] at h; exact h) HRL.out (one_ob2 _ _ _ _) (by have := HIM.out; have := HML.out; omega) (by omega) (by have := HLS.out.1.2.2.2.1.2.2; omega) ?_
                    intro v2 x4 hown2 hg2 hn2 hb2
                    have hls := HLS.out.app (o := ⟨oid, A1, on2, c1, oval⟩) (by rw [HOL3.out]; exact hown2) hg2 hn2 HNV.out.1 (fun b off e => by have h := HNV.out.2 b off e; rw [← HRW.out] at h; exact h)
                    have HLS := Lib.hid hls
                    obtain ⟨A2, c2, hv2, _, _⟩ := own_form hown2
                    subst hv2
                    refine hK (fun b => b = w.heap.size + 3 ∨ some b = rw1) _ _ (fun b h => .inl h) (Mem.of_grown hg2 (fun b e => .inr (by rw [← HRW.out]; exact e.symm))) ?_
                    clear hown2 hg2 hn2 hb2 hls
                    clear hK K
                    try simp only [Act.put, List.setIfInBounds_toArray, List.set_cons_zero, List.set_cons_succ]
                    refine rgx_t (v := ?_) (some 97) 16 (by kernel_rfl) rfl rfl (.inl ⟨by rfl, fun w' q => ?_⟩) ?_
                    rotate_left
                    · go_simp <;> with_reducible rfl
                    try simp only [Act.put, List.setIfInBounds_toArray, List.set_cons_zero, List.set_cons_succ]
                    refine rgx_1 17 (by kernel_rfl) ?_
                    refine ⟨_, rfl, by rfl, fun K hK => ?_⟩
                    obtain ⟨q4, z4, l4⟩ := HLS.out.1.2.2.2.1
                    go_simp
                    have hLs := HLS.out.set7 (u := .slice A2 (i + 1) c2)
                    have hm : Mem (fun b => b = w.heap.size + 3 ∨ some b = rw1) x4 (x4.setCell ⟨w.heap.size + 3, 7, none⟩ (.slice A2 (i + 1) c2)) := (Mem.refl _ _).of_set (.inl rfl)
                    obtain ⟨x5, hW⟩ : ∃ W, (x4.setCell ⟨w.heap.size + 3, 7, none⟩ (.slice A2 (i + 1) c2)) = W := ⟨_, rfl⟩
                    rw [hW] at hLs hm ⊢
                    refine hK (fun b => b = w.heap.size + 3 ∨ some b = rw1) _ _ (fun b h => .inl h) hm ?_
                    have HLS := Lib.hid hLs
                    clear q4 z4 l4 hm hLs hW
                    clear hK K
                    try simp only [Act.put, List.setIfInBounds_toArray, List.set_cons_zero, List.set_cons_succ]
                    refine rgx_d (by kernel_rfl) ?_
                    go_wp2_with fail
                    go_roundw
                    case rel => exact ⟨i + 1, os ++ [⟨oid, A1, on2, c1, oval⟩], A2, c2, by go_num, by have := HLT.out; omega, by rw [List.length_append, HOL3.out]; rfl, by rw [List.map_append, HMAP.out, HTK.out, List.map_append]; rfl, HLS.out⟩
                    case measure => simp [intOf]; have := HLT.out; omega
                  · refine ⟨_, rfl, by rfl, fun K hK => ?_⟩
                    refine wp_appO (.const (.slice none 0 0)) (.tmp 92) 40 x0.heap.size 5 _ 1 1 _ 0 [] _ oA on2 oc (by8 oval) Try.underlying40 byteInfo rfl (by decide) rfl rfl rfl (World.ownsRow_nil _ _ _ _) (HVR.out.below HLS.out.1.2.2.2.2 (Nat.le_refl _)) (one_ints .u8 oval) (by have := HOV.out; omega) (by omega) (Nat.le_refl _) ?_
                    intro v1 x1 hown1 hg1 hn1 hb1
                    simp only [Nat.zero_add, List.nil_append] at hown1
                    obtain ⟨A1, c1, hv1, h91, h92⟩ := own_form hown1
                    subst hv1
                    have HNV := Lib.hid (show Rd x1 x1.heap.size 1 A1 on2 (by8 oval) ∧ ∀ b off, A1 = some ⟨b, off, none⟩ → w.heap.size + 4 ≤ b ∧ b < x1.heap.size ∧ some b ≠ rw1 from ⟨h92, fun b off e => by
                      subst e
                      have h1 := hown1.lt b rfl
                      have h2 := HLS.out.1.2.2.2.1.2.2
                      refine ⟨by omega, h1.2, fun e2 => ?_⟩
                      have h3 := HLS.out.2.2.1.lt b (by rw [HRW.out]; exact e2.symm)
                      omega⟩)
                    have HLS := Lib.hid (HLS.out.below hb1)
                    refine hK (fun b => b = w.heap.size + 3 ∨ some b = rw1) _ _ (fun b h => .inl h) (Mem.of_below hb1) ?_
                    clear hown1 hg1 hn1 hb1 h91 h92
                    clear hK K
                    try simp only [Act.put, List.setIfInBounds_toArray, List.set_cons_zero, List.set_cons_succ]
                    refine rgx_t (v := ?_) (some 94) 13 (by kernel_rfl) rfl rfl (.inl ⟨by rfl, fun w' q => ?_⟩) ?_
                    rotate_left
                    · go_simp <;> with_reducible rfl
                    try simp only [Act.put, List.setIfInBounds_toArray, List.set_cons_zero, List.set_cons_succ]
                    refine rgx_2 1 14 (by kernel_rfl) ?_ ?_
                    · refine ⟨_, rfl, by rfl, fun K hK => ?_⟩
                      obtain ⟨q4, z4, l4⟩ := HLS.out.1.2.2.2.1
                      go_simp
                      obtain ⟨x2, hE⟩ : ∃ W : World, W = x1 := ⟨_, rfl⟩
                      subst hE
                      refine hK (fun b => b = w.heap.size + 3 ∨ some b = rw1) _ _ (fun b h => .inl h) (Mem.refl _ _) ?_
                      clear q4 z4 l4
                      clear hK K
                      try simp only [Act.put, List.setIfInBounds_toArray, List.set_cons_zero, List.set_cons_succ]
                      refine rgx_1 14 (by kernel_rfl) ?_
                      refine ⟨_, rfl, by rfl, fun K hK => ?_⟩
                      go_simp
                      have hb := (Below.refl x2.heap.size x2).alloc (Nat.le_refl _) (.cells #[.int .i64 oid, .slice A1 on2 c1] 48)
                      obtain ⟨bl, hbl2⟩ : ∃ bl, x2.heap.size = bl := ⟨_, rfl⟩
                      have hRl : Rd (x2.alloc (.cells #[.int .i64 oid, .slice A1 on2 c1] 48)) (bl + 1) 2 (some ⟨bl, 0, none⟩) 1 [.int .i64 oid, .slice A1 on2 c1] := by rw [← hbl2]; exact Rd.lit rfl (Nat.lt_succ_self _)
                      have HLS := Lib.hid (HLS.out.below hb)
                      have HNV := Lib.hid (show Rd (x2.alloc (.cells #[.int .i64 oid, .slice A1 on2 c1] 48)) (x2.alloc (.cells #[.int .i64 oid, .slice A1 on2 c1] 48)).heap.size 1 A1 on2 (by8 oval) ∧ ∀ b off, A1 = some ⟨b, off, none⟩ → w.heap.size + 4 ≤ b ∧ b < (x2.alloc (.cells #[.int .i64 oid, .slice A1 on2 c1] 48)).heap.size ∧ some b ≠ rw1 from ⟨(HNV.out.1.below hb (Nat.le_refl _)).more hb.size, fun b off e => by obtain ⟨h1, h2, h3⟩ := HNV.out.2 b off e; exact ⟨h1, Nat.lt_of_lt_of_le h2 hb.size, h3⟩⟩)
                      obtain ⟨x3, hW⟩ : ∃ W, x2.alloc (.cells #[.int .i64 oid, .slice A1 on2 c1] 48) = W := ⟨_, rfl⟩
                      rw [hW] at HLS HNV hRl hb ⊢
                      rw [hbl2]
                      refine hK (fun b => b = w.heap.size + 3 ∨ some b = rw1) _ _ (fun b h => .inl h) (Mem.of_below hb) ?_
                      have HRL := Lib.hid hRl
                      have HBL := Lib.hid (show bl < x3.heap.size by have := hb.size; rw [← hbl2, ← hW]; simp)
                      clear hb hbl2 hRl hW
                      clear hK K
                      try simp only [Act.put, List.setIfInBounds_toArray, List.set_cons_zero, List.set_cons_succ]
                      refine rgx_1 15 (by kernel_rfl) ?_
                      refine ⟨_, rfl, by rfl, fun K hK => ?_⟩
                      refine wp_appR (.tmp 82) (.tmp 95) 28 (w.heap.size + 4) 48 _ 2 32 (.slice Ar i cr) i (obCells os) _ ⟨bl, 0, none⟩ 1 1 [.int .i64 oid, .slice A1 on2 c1] Try.underlying28 obInfo2 rfl (by decide) rfl rfl rfl (by have h := HLS.out.2.2.1; rw [HOL3.out] at h; exact h) HRL.out (one_ob2 _ _ _ _) (by have := HIM.out; have := HML.out; omega) (by omega) (by have := HLS.out.1.2.2.2.1.2.2; omega) ?_
                      intro v2 x4 hown2 hg2 hn2 hb2
                      have hls := HLS.out.app (o := ⟨oid, A1, on2, c1, oval⟩) (by rw [HOL3.out]; exact hown2) hg2 hn2 HNV.out.1 (fun b off e => by have h := HNV.out.2 b off e; rw [← HRW.out] at h; exact h)
                      have HLS := Lib.hid hls
                      obtain ⟨A2, c2, hv2, _, _⟩ := own_form hown2
                      subst hv2
                      refine hK (fun b => b = w.heap.size + 3 ∨ some b = rw1) _ _ (fun b h => .inl h) (Mem.of_grown hg2 (fun b e => .inr (by rw [← HRW.out]; exact e.symm))) ?_
                      clear hown2 hg2 hn2 hb2 hls
                      clear hK K
                      try simp only [Act.put, List.setIfInBounds_toArray, List.set_cons_zero, List.set_cons_succ]
                      refine rgx_t (v := ?_) (some 97) 16 (by kernel_rfl) rfl rfl (.inl ⟨by rfl, fun w' q => ?_⟩) ?_
                      rotate_left
                      · go_simp <;> with_reducible rfl
                      try simp only [Act.put, List.setIfInBounds_toArray, List.set_cons_zero, List.set_cons_succ]
                      refine rgx_1 17 (by kernel_rfl) ?_
                      refine ⟨_, rfl, by rfl, fun K hK => ?_⟩
                      obtain ⟨q4, z4, l4⟩ := HLS.out.1.2.2.2.1
                      go_simp
                      have hLs := HLS.out.set7 (u := .slice A2 (i + 1) c2)
                      have hm : Mem (fun b => b = w.heap.size + 3 ∨ some b = rw1) x4 (x4.setCell ⟨w.heap.size + 3, 7, none⟩ (.slice A2 (i + 1) c2)) := (Mem.refl _ _).of_set (.inl rfl)
                      obtain ⟨x5, hW⟩ : ∃ W, (x4.setCell ⟨w.heap.size + 3, 7, none⟩ (.slice A2 (i + 1) c2)) = W := ⟨_, rfl⟩
                      rw [hW] at hLs hm ⊢
                      refine hK (fun b => b = w.heap.size + 3 ∨ some b = rw1) _ _ (fun b h => .inl h) hm ?_
                      have HLS := Lib.hid hLs
                      clear q4 z4 l4 hm hLs hW
                      clear hK K
                      try simp only [Act.put, List.setIfInBounds_toArray, List.set_cons_zero, List.set_cons_succ]
                      refine rgx_d (by kernel_rfl) ?_
                      go_wp2_with fail
                      go_roundw
                      case rel => exact ⟨i + 1, os ++ [⟨oid, A1, on2, c1, oval⟩], A2, c2, by go_num, by have := HLT.out; omega, by rw [List.length_append, HOL3.out]; rfl, by rw [List.map_append, HMAP.out, HTK.out, List.map_append]; rfl, HLS.out⟩
                      case measure => simp [intOf]; have := HLT.out; omega
                    · refine ⟨_, rfl, by rfl, fun K hK => ?_⟩
                      go_simp
                      have hb := (Below.refl x1.heap.size x1).alloc (Nat.le_refl _) (.cells #[.int .i64 oid, .slice A1 on2 c1] 48)
                      obtain ⟨bl, hbl2⟩ : ∃ bl, x1.heap.size = bl := ⟨_, rfl⟩
                      have hRl : Rd (x1.alloc (.cells #[.int .i64 oid, .slice A1 on2 c1] 48)) (bl + 1) 2 (some ⟨bl, 0, none⟩) 1 [.int .i64 oid, .slice A1 on2 c1] := by rw [← hbl2]; exact Rd.lit rfl (Nat.lt_succ_self _)
                      have HLS := Lib.hid (HLS.out.below hb)
                      have HNV := Lib.hid (show Rd (x1.alloc (.cells #[.int .i64 oid, .slice A1 on2 c1] 48)) (x1.alloc (.cells #[.int .i64 oid, .slice A1 on2 c1] 48)).heap.size 1 A1 on2 (by8 oval) ∧ ∀ b off, A1 = some ⟨b, off, none⟩ → w.heap.size + 4 ≤ b ∧ b < (x1.alloc (.cells #[.int .i64 oid, .slice A1 on2 c1] 48)).heap.size ∧ some b ≠ rw1 from ⟨(HNV.out.1.below hb (Nat.le_refl _)).more hb.size, fun b off e => by obtain ⟨h1, h2, h3⟩ := HNV.out.2 b off e; exact ⟨h1, Nat.lt_of_lt_of_le h2 hb.size, h3⟩⟩)
                      obtain ⟨x2, hW⟩ : ∃ W, x1.alloc (.cells #[.int .i64 oid, .slice A1 on2 c1] 48) = W := ⟨_, rfl⟩
                      rw [hW] at HLS HNV hRl hb ⊢
                      rw [hbl2]
                      refine hK (fun b => b = w.heap.size + 3 ∨ some b = rw1) _ _ (fun b h => .inl h) (Mem.of_below hb) ?_
                      have HRL := Lib.hid hRl
                      have HBL := Lib.hid (show bl < x2.heap.size by have := hb.size; rw [← hbl2, ← hW]; simp)
                      clear hb hbl2 hRl hW
                      clear hK K
                      try simp only [Act.put, List.setIfInBounds_toArray, List.set_cons_zero, List.set_cons_succ]
                      refine rgx_1 1 (by kernel_rfl) ?_
                      refine ⟨_, rfl, by rfl, fun K hK => ?_⟩
                      obtain ⟨q4, z4, l4⟩ := HLS.out.1.2.2.2.1
                      go_simp
                      obtain ⟨x3, hE⟩ : ∃ W : World, W = x2 := ⟨_, rfl⟩
                      subst hE
                      refine hK (fun b => b = w.heap.size + 3 ∨ some b = rw1) _ _ (fun b h => .inl h) (Mem.refl _ _) ?_
                      clear q4 z4 l4
                      clear hK K
                      try simp only [Act.put, List.setIfInBounds_toArray, List.set_cons_zero, List.set_cons_succ]
                      refine rgx_1 15 (by kernel_rfl) ?_
                      refine ⟨_, rfl, by rfl, fun K hK => ?_⟩
                      refine wp_appR (.tmp 82) (.tmp 95) 28 (w.heap.size + 4) 48 _ 2 32 (.slice Ar i cr) i (obCells os) _ ⟨bl, 0, none⟩ 1 1 [.int .i64 oid, .slice A1 on2 c1] Try.underlying28 obInfo2 rfl (by decide) rfl rfl rfl (by have h := HLS.out.2.2.1; rw [HOL3.out] at h; exact h) HRL.out (one_ob2 _ _ _ _) (by have := HIM.out; have := HML.out; omega) (by omega) (by have := HLS.out.1.2.2.2.1.2.2; omega) ?_
                      intro v2 x4 hown2 hg2 hn2 hb2
                      have hls := HLS.out.app (o := ⟨oid, A1, on2, c1, oval⟩) (by rw [HOL3.out]; exact hown2) hg2 hn2 HNV.out.1 (fun b off e => by have h := HNV.out.2 b off e; rw [← HRW.out] at h; exact h)
                      have HLS := Lib.hid hls
                      obtain ⟨A2, c2, hv2, _, _⟩ := own_form hown2
                      subst hv2
                      refine hK (fun b => b = w.heap.size + 3 ∨ some b = rw1) _ _ (fun b h => .inl h) (Mem.of_grown hg2 (fun b e => .inr (by rw [← HRW.out]; exact e.symm))) ?_
                      clear hown2 hg2 hn2 hb2 hls
                      clear hK K
                      try simp only [Act.put, List.setIfInBounds_toArray, List.set_cons_zero, List.set_cons_succ]
                      refine rgx_t (v := ?_) (some 97) 16 (by kernel_rfl) rfl rfl (.inl ⟨by rfl, fun w' q => ?_⟩) ?_
                      rotate_left
                      · go_simp <;> with_reducible rfl
                      try simp only [Act.put, List.setIfInBounds_toArray, List.set_cons_zero, List.set_cons_succ]
                      refine rgx_1 17 (by kernel_rfl) ?_
                      refine ⟨_, rfl, by rfl, fun K hK => ?_⟩
                      obtain ⟨q4, z4, l4⟩ := HLS.out.1.2.2.2.1
                      go_simp
                      have hLs := HLS.out.set7 (u := .slice A2 (i + 1) c2)
                      have hm : Mem (fun b => b = w.heap.size + 3 ∨ some b = rw1) x4 (x4.setCell ⟨w.heap.size + 3, 7, none⟩ (.slice A2 (i + 1) c2)) := (Mem.refl _ _).of_set (.inl rfl)
                      obtain ⟨x5, hW⟩ : ∃ W, (x4.setCell ⟨w.heap.size + 3, 7, none⟩ (.slice A2 (i + 1) c2)) = W := ⟨_, rfl⟩
                      rw [hW] at hLs hm ⊢
                      refine hK (fun b => b = w.heap.size + 3 ∨ some b = rw1) _ _ (fun b h => .inl h) hm ?_
                      have HLS := Lib.hid hLs
                      clear q4 z4 l4 hm hLs hW
                      clear hK K
                      try simp only [Act.put, List.setIfInBounds_toArray, List.set_cons_zero, List.set_cons_succ]
                      refine rgx_d (by kernel_rfl) ?_
                      go_wp2_with fail
                      go_roundw
                      case rel => exact ⟨i + 1, os ++ [⟨oid, A1, on2, c1, oval⟩], A2, c2, by go_num, by have := HLT.out; omega, by rw [List.length_append, HOL3.out]; rfl, by rw [List.map_append, HMAP.out, HTK.out, List.map_append]; rfl, HLS.out⟩
                      case measure => simp [intOf]; have := HLT.out; omega
                · obtain rfl : i = j := by omega
                  have HD5 := Lib.hid HD4.out.to4
                  rw [HOL3.out.symm] at HCN
                  rw [HOL3.out] at HCN
                  by_cases hmo : i < m
                  · have d1 : decide ((i : Int) < (m : Int)) = true := by simp; omega
                    have d1n : decide (i < m) = true := by simpa using hmo
                    obtain ⟨bf, of_, hAf, hbf, hk', o0, o1⟩ := sob_at (Rd.of_own HD4.out.2.1) i hmo
                    obtain ⟨oid, hoid⟩ : ∃ z, fil[i].id = z := ⟨_, rfl⟩
                    rw [hoid] at o0
                    subst hAf
                    have hbf4 : w.heap.size + 4 ≤ bf := (HD4.out.2.1.lt bf rfl).1
                    have hbxn : ¬ (bf = w.heap.size + 3) := by omega
                    have HNX := Lib.hid (show nextId fil i = oid by rw [nextId, if_pos hk', List.getElem?_eq_getElem hk']; exact hoid)
                    have HMO := Lib.hid (show decide (i < m) = true from d1n)
                    clear o1 hk' hoid hbf4
                    go_upto_region 24 with fail
                    go_cut [] (fun x => D4 w x S ask (.slice Ar i cr) os #[.int .i64 43, .int .i64 0, .slice none 0 0, .int .i64 3, .int .i64 lv, .bool true, .int .i64 oid, .slice Ar i cr])
                    case first =>
                      have HLS := Lib.hid (HD5.out.below (below_drew (Below.refl _ _)))
                      obtain ⟨x0, hx0⟩ : ∃ x, wr.drew = x := ⟨_, rfl⟩
                      rw [hx0] at HLS
                      have y0 : x0.cell? ⟨bf, of_ + i * 2, none⟩ = some (.int .i64 oid) := by rw [← hx0]; exact o0
                      have hbx : bf < x0.heap.size := by rw [← hx0]; exact hbf
                      clear o0 hbf
                      refine rgx_start_x (X := fun b => b = w.heap.size + 3) (by kernel_rfl) ?_
                      rw [hx0]
                      refine rgx_t (v := ?_) (some 102) 0 (by kernel_rfl) rfl rfl (.inl ⟨by rfl, fun w' q => ?_⟩) ?_
                      rotate_left
                      · go_simp <;> with_reducible rfl
                      try simp only [Act.put, List.setIfInBounds_toArray, List.set_cons_zero, List.set_cons_succ]
                      refine rgx_t (v := ?_) (some 103) 1 (by kernel_rfl) rfl rfl (.inl ⟨by rfl, fun w' q => ?_⟩) ?_
                      rotate_left
                      · go_simp <;> with_reducible rfl
                      try simp only [Act.put, List.setIfInBounds_toArray, List.set_cons_zero, List.set_cons_succ]
                      refine rgx_t (v := ?_) (some 104) 2 (by kernel_rfl) rfl rfl (.inl ⟨by rfl, fun w' q => ?_⟩) ?_
                      rotate_left
                      · go_simp <;> with_reducible rfl
                      try simp only [Act.put, List.setIfInBounds_toArray, List.set_cons_zero, List.set_cons_succ]
                      refine rgx_t (v := ?_) (some 105) 3 (by kernel_rfl) rfl rfl (.inl ⟨by rfl, fun w' q => ?_⟩) ?_
                      rotate_left
                      · go_simp <;> with_reducible rfl
                      try simp only [Act.put, List.setIfInBounds_toArray, List.set_cons_zero, List.set_cons_succ]
                      refine rgx_t (v := ?_) (some 106) 4 (by kernel_rfl) rfl rfl (.inl ⟨by rfl, fun w' q => ?_⟩) ?_
                      rotate_left
                      · go_simp <;> with_reducible rfl
                      try simp only [Act.put, List.setIfInBounds_toArray, List.set_cons_zero, List.set_cons_succ]
                      refine rgx_t (v := ?_) (some 107) 5 (by kernel_rfl) rfl rfl (.inl ⟨by rfl, fun w' q => ?_⟩) ?_
                      rotate_left
                      · go_simp <;> with_reducible rfl
                      try simp only [Act.put, List.setIfInBounds_toArray, List.set_cons_zero, List.set_cons_succ]
                      refine rgx_1 6 (by kernel_rfl) ?_
                      refine ⟨_, rfl, by rfl, fun K hK => ?_⟩
                      obtain ⟨q4, z4, l4⟩ := HLS.out.1.2.2.2.1
                      go_simp
                      first | have hLs := HLS.out.set (k := 5) (u := .bool true) (rep' := #[.int .i64 43, .int .i64 0, .slice none 0 0, .int .i64 3, .int .i64 lv, .bool true, .int .i64 0, .slice Ar i cr]) (by simp) rfl | have hLs := HLS.out.set (k := 5) (u := .bool true) (rep' := #[.int .i64 43, .int .i64 0, .slice none 0 0, .int .i64 3, .int .i64 lv, .bool true, .int .i64 oid, .slice Ar i cr]) (by simp) rfl
                      have hm : Mem (fun b => b = w.heap.size + 3) x0 (x0.setCell ⟨w.heap.size + 3, 5, none⟩ (.bool true)) := (Mem.refl _ _).of_set rfl
                      obtain ⟨x1, hW⟩ : ∃ W, (x0.setCell ⟨w.heap.size + 3, 5, none⟩ (.bool true)) = W := ⟨_, rfl⟩
                      rw [hW] at hLs hm ⊢
                      refine hK (fun b => b = w.heap.size + 3) _ _ (fun b h => .inl h) hm ?_
                      have HLS := Lib.hid hLs
                      clear q4 z4 l4 hm hLs hW
                      clear hK K
                      try simp only [Act.put, List.setIfInBounds_toArray, List.set_cons_zero, List.set_cons_succ]
                      refine rgx_t (v := ?_) (some 108) 7 (by kernel_rfl) rfl rfl (.inl ⟨by rfl, fun w' q => ?_⟩) ?_
                      rotate_left
                      · go_simp <;> with_reducible rfl
                      try simp only [Act.put, List.setIfInBounds_toArray, List.set_cons_zero, List.set_cons_succ]
                      refine rgx_1 8 (by kernel_rfl) ?_
                      refine ⟨_, rfl, by rfl, fun K hK => ?_⟩
                      obtain ⟨q4, z4, l4⟩ := HLS.out.1.2.2.2.1
                      go_simp
                      first | have hLs := HLS.out.set (k := 6) (u := .int .i64 oid) (rep' := #[.int .i64 43, .int .i64 0, .slice none 0 0, .int .i64 3, .int .i64 lv, .bool false, .int .i64 oid, .slice Ar i cr]) (by simp) rfl | have hLs := HLS.out.set (k := 6) (u := .int .i64 oid) (rep' := #[.int .i64 43, .int .i64 0, .slice none 0 0, .int .i64 3, .int .i64 lv, .bool true, .int .i64 oid, .slice Ar i cr]) (by simp) rfl
                      have hm : Mem (fun b => b = w.heap.size + 3) x1 (x1.setCell ⟨w.heap.size + 3, 6, none⟩ (.int .i64 oid)) := (Mem.refl _ _).of_set rfl
                      obtain ⟨x2, hW⟩ : ∃ W, (x1.setCell ⟨w.heap.size + 3, 6, none⟩ (.int .i64 oid)) = W := ⟨_, rfl⟩
                      rw [hW] at hLs hm ⊢
                      refine hK (fun b => b = w.heap.size + 3) _ _ (fun b h => .inl h) hm ?_
                      have HLS := Lib.hid hLs
                      clear q4 z4 l4 hm hLs hW
                      clear hK K
                      try simp only [Act.put, List.setIfInBounds_toArray, List.set_cons_zero, List.set_cons_succ]
                      refine rgx_d (by kernel_rfl) ?_
                      go_wp2_with fail
                      go_meet
                      case rel => exact HLS.out
                    case rest =>
                      have HX := Lib.hid hcut
                      clear hcut o0 hbf
                      have HFN := Lib.hid (HX.out.fin (.int .i64 43) (.int .i64 0) (.slice none 0 0) (.int .i64 3) (.int .i64 lv) (.bool true) (.int .i64 oid) (.slice Ar i cr))
                      obtain ⟨q5, z5, l5⟩ := HX.out.1.2.2.2.1
                      obtain ⟨q4, z4, l4⟩ := HX.out.1.2.2.1
                      have hne : ¬ (w.heap.size + 2 = w.heap.size + 3) := by omega
                      go_wp2
                      obtain ⟨qz, zz, lz⟩ := HFN.out.1
                      refine bodyPost_ret (v := .agg #[.int .i64 43, .int .i64 0, .slice none 0 0, .int .i64 3, .int .i64 lv, .bool true, .int .i64 oid, .slice Ar i cr]) (by simp [results, Try.results34, go_sem, qz, zz, lz]) rfl ⟨HFN.out.2.1, .inr ⟨by rw [HFIL.out]; intro h; have := HPOS.out; have h2 := HM.out; rw [h] at h2; simp at h2; omega, os, Ar, cr, ?_, ?_, ?_, HFN.out.2.2.1, (fun b off e => by have := HFN.out.2.2.2.1 b off e; omega), fun o ho => ⟨(HFN.out.2.2.2.2 o ho).1, fun b off e => by have := (HFN.out.2.2.2.2 o ho).2 b off e; omega⟩⟩⟩
                      · rw [HFIL.out, ← HM.out, HCN.out, HNX.out, HLVE.out, HOL3.out, HMO.out]
                      · rw [HFIL.out, ← HM.out, HCN.out, HOL3.out]
                      · rw [HFIL.out, HOL3.out]; exact HMAP.out
                  · have d1 : decide ((i : Int) < (m : Int)) = false := by simp; omega
                    have d1n : decide (i < m) = false := by simpa using hmo
                    have HNX := Lib.hid (show nextId fil i = 0 by rw [nextId, if_neg (by have := HM.out; omega)])
                    have HMO := Lib.hid (show decide (i < m) = false from d1n)
                    have HFN := Lib.hid (HD5.out.fin (.int .i64 43) (.int .i64 0) (.slice none 0 0) (.int .i64 3) (.int .i64 lv) (.bool false) (.int .i64 0) (.slice Ar i cr))
                    obtain ⟨q5, z5, l5⟩ := HD5.out.1.2.2.2.1
                    obtain ⟨q4, z4, l4⟩ := HD5.out.1.2.2.1
                    have hne : ¬ (w.heap.size + 2 = w.heap.size + 3) := by omega
                    go_wp2
                    obtain ⟨qz, zz, lz⟩ := HFN.out.1
                    refine bodyPost_ret (v := .agg #[.int .i64 43, .int .i64 0, .slice none 0 0, .int .i64 3, .int .i64 lv, .bool false, .int .i64 0, .slice Ar i cr]) (by simp [results, Try.results34, go_sem, qz, zz, lz]) rfl ⟨HFN.out.2.1, .inr ⟨by rw [HFIL.out]; intro h; have := HPOS.out; have h2 := HM.out; rw [h] at h2; simp at h2; omega, os, Ar, cr, ?_, ?_, ?_, HFN.out.2.2.1, (fun b off e => by have := HFN.out.2.2.2.1 b off e; omega), fun o ho => ⟨(HFN.out.2.2.2.2 o ho).1, fun b off e => by have := (HFN.out.2.2.2.2 o ho).2 b off e; omega⟩⟩⟩
                    · rw [HFIL.out, ← HM.out, HCN.out, HNX.out, HLVE.out, HOL3.out, HMO.out]
                    · rw [HFIL.out, ← HM.out, HCN.out, HOL3.out]
                    · rw [HFIL.out, HOL3.out]; exact HMAP.out
end Go.Proofs.Ytpbmolijoadonaa

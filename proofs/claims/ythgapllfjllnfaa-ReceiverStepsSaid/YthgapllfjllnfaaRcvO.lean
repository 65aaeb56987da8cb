/- The reference of the receiver: Frames. -/
import Derived.Test.YthgapllfjllnfaaRcvB
set_option linter.unusedVariables false
set_option linter.unusedSimpArgs false
namespace Go.Proofs.Ythgapllfjllnfaa
open Go.RowKit

theorem evCells_take (l : List Ev) (m : Nat) : evCells (l.take m) = (evCells l).take (m * 3) := by
  induction l generalizing m with
  | nil => simp [evCells]
  | cons e t ih =>
    rcases m with _ | m
    · simp [evCells]
    · have := ih m
      rw [show (m + 1) * 3 = m * 3 + 1 + 1 + 1 by omega]
      simpa [evCells] using this
theorem evCells_drop (l : List Ev) (m : Nat) : evCells (l.drop m) = (evCells l).drop (m * 3) := by
  induction l generalizing m with
  | nil => simp [evCells]
  | cons e t ih =>
    rcases m with _ | m
    · simp [evCells]
    · have := ih m
      rw [show (m + 1) * 3 = m * 3 + 1 + 1 + 1 by omega]
      simpa [evCells] using this
theorem Rd.part {w : World} {B n c : Nat} {b off : Nat} {l : List Ev} (h : Rd w B 3 (some ⟨b, off, none⟩) n (evCells l)) {st m : Nat} (h1 : st < m) (h2 : m ≤ n) : Rd w B 3 (some ⟨b, off + st * 3, none⟩) (m - st) (evCells ((l.take m).drop st)) := by
  have h1 := (h.take (k := m) h2).cut (k := st) (cap := m) (by omega) (Nat.le_refl _)
  rw [if_neg (by omega)] at h1
  have e : (Option.map (fun x => x.add (st * 3)) (some (⟨b, off, none⟩ : Addr))) = some ⟨b, off + st * 3, none⟩ := by simp [Addr.add]
  rw [e] at h1
  rw [evCells_drop, evCells_take]
  exact h1
theorem part_last (l : List Ev) (st m : Nat) (h1 : st < m + 1) (h2 : m + 1 ≤ l.length) : l[m]? = some (lastD ((l.take (m + 1)).drop st)) := by
  rw [List.take_succ_eq_append_getElem (by omega), List.drop_append_of_le_length (by simp; omega), lastD_snoc, List.getElem?_eq_getElem (by omega)]
theorem part_snoc (l : List Ev) (st m : Nat) (h1 : st ≤ m) (h2 : m < l.length) : (l.take (m + 1)).drop st = (l.take m).drop st ++ [l[m]] := by
  rw [List.take_succ_eq_append_getElem h2, List.drop_append_of_le_length (by simp; omega)]
/-- Within Frames: the setting's cells, the list, its frames. -/
def FmS (w0 x : World) (b p : Int) (vo : Value) (l : List Fr) : Prop :=
  Box x w0.heap.size #[.int .i64 b, .int .i64 p] ∧ x.ownsRow (w0.heap.size + 1) 44 4 vo l.length (frCells l) ∧ (∀ f ∈ l, FrOk x (fun b => some b = vo.ownBlock) f) ∧ Below w0.heap.size w0 x
theorem FmS.below {w0 x x' : World} {b p : Int} {vo : Value} {l : List Fr} (h : FmS w0 x b p vo l) (hb : Below x.heap.size x x') : FmS w0 x' b p vo l := by
  obtain ⟨h1, h2, h3, h4⟩ := h
  exact ⟨h1.below hb, own_below h2 hb (Nat.le_refl _), fun f hf => (h3 f hf).below hb, ext_trans h4 hb⟩
theorem FmS.app {w0 x x' : World} {b p : Int} {vo vo' : Value} {l : List Fr} {f : Fr} (h : FmS w0 x b p vo l) (hf : FrOk x (fun b => some b = vo.ownBlock) f) (hown : x'.ownsRow (w0.heap.size + 1) 44 4 vo' (l.length + 1) (frCells l ++ frRow f)) (hg : x.grownBy x' vo.ownBlock) (hn : OwnNext x vo vo') : FmS w0 x' b p vo' (l ++ [f]) := by
  obtain ⟨h1, h2, h3, h4⟩ := h
  have hnew : vo'.ownBlock = vo.ownBlock ∨ ∃ b, vo'.ownBlock = some b ∧ x.heap.size ≤ b := hn
  have hmv : ∀ y, FrOk x (fun b => some b = vo.ownBlock) y → FrOk x' (fun b => some b = vo'.ownBlock) y := fun y hy => hy.move hg.size (fun b hlt hnb => hg.block b hlt hnb) (fun b hlt hnb => by
    rcases hnew with e | ⟨c, e, hc⟩
    · rw [← e]; exact hnb
    · rw [e] at hnb; injection hnb with hnb; omega)
  refine ⟨h1.row hg (ne_row h2 (by omega)), ?_, fun y hy => ?_, below_row h4 h2 hg (by omega) h4.size⟩
  · rw [List.length_append, show frCells (l ++ [f]) = frCells l ++ frRow f by simp [frCells]]; exact hown
  · rcases List.mem_append.1 hy with hy | hy
    · exact hmv y (h3 y hy)
    · obtain rfl : y = f := by simpa using hy
      exact hmv y hf
theorem goR_last (ch t15 t35 : Int) (c : List Ev) : goR ch t15 t35 c [] = [frameR ch t15 c] := rfl
set_option maxRecDepth 100000 in
set_option maxHeartbeats 16000000 in
theorem rframes_eq (b p ch t15 t35 : Int) (hc : charZ b p = ch) (h15 : t15Z b p = t15) (h35 : t35Z b p = t35) (evs : List Ev) (A : Option Addr) (n c B : Nat) (w : World) (hr : Rd w B 3 A n (evCells evs)) (hB : B ≤ w.heap.size) (hnc : n ≤ c) (hcm : c ≤ maxLen) (hn : n ≤ 1000) (hin : evs.all inR = true) :
    Calls Try.prog 15 #[.agg #[.int .i64 b, .int .i64 p], .slice A n c] w fun e w' => ∃ (l : List Fr) (Ao : Option Addr) (co : Nat), e = .returned (.slice Ao l.length co) ∧ Rd w' w'.heap.size 4 Ao l.length (frCells l) ∧ (∀ f ∈ l, FrOk w' (fun _ => False) f) ∧ l.map fz = framesR ch t15 t35 evs ∧ Below w.heap.size w w' := by
  unfold maxLen at hcm
  have hel := hr.elen
  have HEL := Lib.hid hel
  have HIN := Lib.hid hin
  have HC := Lib.hid hc
  have H15 := Lib.hid h15
  have HT := Lib.hid (fun W => rt35_eq b p t35 h35 W)
  have HR := Lib.hid hr
  have HBB := Lib.hid hB
  have hst0 : FmS w (w.alloc (.cells #[.int .i64 b, .int .i64 p] 23)) b p (.slice none 0 0) [] :=
    ⟨Box.alloc_, ⟨rfl, .inl ⟨rfl, rfl⟩⟩, (fun f hf => by cases hf), (Below.refl _ _).alloc (Nat.le_refl _) _⟩
  have HST := Lib.hid hst0
  clear hr hB hin hc h15 h35 hel hst0
  go_enter Try.func15, Try.ntmps15
  go_wp2_with fail
  go_loopw [5, 6, 7] (fun ov sv i x => ∃ (m st : Nat) (l : List Fr) (Ao : Option Addr) (co : Nat), ov = .slice Ao l.length co ∧ sv = .int .i64 st ∧ i = .int .i64 m ∧ 1 ≤ m ∧ m ≤ n + 1 ∧ l.length ≤ m ∧ (m ≤ n → st < m ∧ l.map fz ++ goR ch t15 t35 ((evs.take m).drop st) (evs.drop m) = framesR ch t15 t35 evs) ∧ (n < m → l.map fz = framesR ch t15 t35 evs) ∧ FmS w x b p (.slice Ao l.length co) l) (fun _ _ i _ => n + 1 - (intOf i).toNat)
  case atStart =>
    refine ⟨1, 0, [], none, 0, rfl, rfl, rfl, Nat.le_refl _, by omega, by simp, fun h => ⟨by omega, ?_⟩, fun h => ?_, HST.out⟩
    · rcases evs with _ | ⟨e, t⟩
      · have := HEL.out; simp at this; omega
      · simp [framesR]
    · rcases evs with _ | ⟨e, t⟩
      · rfl
      · have := HEL.out; simp at this; omega
  case round =>
    obtain ⟨m, st, l, Ao, co, rfl, rfl, rfl, hm1, hmn, hlm, hgo, hend, hfs⟩ := hrel
    have HGO := Lib.hid hgo
    have HEND := Lib.hid hend
    have HF1 := Lib.hid hfs
    have HLM := Lib.hid hlm
    clear hgo hend hfs hlm
    by_cases hlt : m ≤ n
    · obtain ⟨hst, hgo⟩ := HGO.out hlt
      have hel := HEL.out
      obtain ⟨b0, off, hA, hb0, _⟩ := HR.out.2 (by omega)
      subst hA
      obtain ⟨cc, hcc⟩ : ∃ z, (evs.take m).drop st = z := ⟨_, rfl⟩
      have hcl : cc.length = m - st := by rw [← hcc]; simp; omega
      have hcin : cc.all inR = true := by
        rw [List.all_eq_true]; intro x hx
        rw [← hcc] at hx
        exact List.all_eq_true.1 HIN.out x (List.mem_of_mem_take (List.mem_of_mem_drop hx))
      rw [hcc] at hgo
      obtain ⟨F, hF⟩ : ∃ F, frameR ch t15 cc = F := ⟨_, rfl⟩
      have HFM := Lib.hid (fun (W : World) (h : Rd W B 3 (some ⟨b0, off, none⟩) n (evCells evs)) (hB : B ≤ W.heap.size) => rframe_eq b p ch t15 HC.out H15.out cc F hF (some ⟨b0, off + st * 3, none⟩) (m - st) (c - st) B W (hcc ▸ h.part (c := c) hst hlt) hB (by omega) (by omega) hcin)
      -- what the test finds
      have htest : ∃ eb : Bool, (eb = true → (m = n ∧ framesR ch t15 t35 evs = l.map fz ++ [F]) ∨ (m < n ∧ framesR ch t15 t35 evs = (l.map fz ++ [F]) ++ goR ch t15 t35 ((evs.take (m + 1)).drop m) (evs.drop (m + 1)))) ∧
          (eb = false → m < n ∧ framesR ch t15 t35 evs = l.map fz ++ goR ch t15 t35 ((evs.take (m + 1)).drop st) (evs.drop (m + 1))) ∧
          ((m = n ∧ eb = true) ∨ ∃ x y, m < n ∧ evs[m - 1]? = some x ∧ evs[m]? = some y ∧ eb = decide (t35 ≤ silR ch x y)) := by
        by_cases hmn : m = n
        · refine ⟨true, fun _ => .inl ⟨hmn, ?_⟩, (fun h => by cases h), .inl ⟨hmn, rfl⟩⟩
          rw [← hgo, List.drop_eq_nil_of_le (by omega), goR_last, hF]
        · have hml : m < evs.length := by omega
          obtain ⟨j, hj⟩ : ∃ j, m = j + 1 := ⟨m - 1, by omega⟩
          have hx := part_last evs st j (by omega) (by omega)
          rw [← hj, hcc] at hx
          have hdr : evs.drop m = evs[m] :: evs.drop (m + 1) := List.drop_eq_getElem_cons hml
          rw [hdr] at hgo
          have hp0 : (evs.take (m + 1)).drop m = [evs[m]] := by rw [part_snoc evs m m (Nat.le_refl _) hml, List.drop_eq_nil_of_le (by simp; omega)]; rfl
          have hp1 : (evs.take (m + 1)).drop st = cc ++ [evs[m]] := by rw [part_snoc evs st m (by omega) hml, hcc]
          refine ⟨decide (t35 ≤ silR ch (lastD cc) evs[m]), fun h => .inr ⟨by omega, ?_⟩, fun h => ⟨by omega, ?_⟩, .inr ⟨lastD cc, evs[m], by omega, by rw [hj]; simpa using hx, List.getElem?_eq_getElem hml, rfl⟩⟩
          · have h : t35 ≤ silR ch (lastD cc) evs[m] := by simpa using h
            rw [← hgo, goR, if_pos h, hF, hp0]; simp
          · have h : ¬ t35 ≤ silR ch (lastD cc) evs[m] := by simpa using h
            rw [← hgo, goR, if_neg h, hp1]
      obtain ⟨eb, ht, hf, hsay⟩ := htest
      have HT1 := Lib.hid ht
      have HT2 := Lib.hid hf
      have HSAY := Lib.hid hsay
      have hmle : decide ((m : Int) ≤ (n : Int)) = true := by simp; omega
      clear ht hf hsay hgo hcl hcin hF hcc hel
      go_upto_region 6 with fail
      go_cut [26] (fun u x => u = .bool eb ∧ FmS w x b p (.slice Ao l.length co) l)
      case first =>
        have HD := Lib.hid (HF1.out.below (below_drew (Below.refl _ _)))
        have hS0 : wr.drew.cell? ⟨w.heap.size, 0, none⟩ = some (.int .i64 b) ∧ wr.drew.cell? ⟨w.heap.size, 1, none⟩ = some (.int .i64 p) ∧ True := ⟨HD.out.1.1 0, HD.out.1.1 1, trivial⟩
        rcases HSAY.out with ⟨he, hb⟩ | ⟨x, y, hml, hx, hy, hb⟩
        · have d1 : ((m : Int) == (n : Int)) = true := by simp; omega
          have HE := Lib.hid hb
          clear he hb
          refine rgs_start (fun w' => w'.cell? ⟨w.heap.size, 0, none⟩ = some (.int .i64 b) ∧ w'.cell? ⟨w.heap.size, 1, none⟩ = some (.int .i64 p) ∧ True) (by kernel_rfl) ?_
          refine rgs_t (v := ?_) (some 14) 0 (by kernel_rfl) rfl rfl (by assumption) (.inl ⟨by rfl, fun w' hw => ?_⟩) ?_
          rotate_left
          · obtain ⟨q1, q2, q3⟩ := hw; go_simp <;> with_reducible rfl
          try simp only [Act.put, List.setIfInBounds_toArray, List.set_cons_zero, List.set_cons_succ]
          refine rgs_t (v := ?_) (some 15) 1 (by kernel_rfl) rfl rfl (by assumption) (.inl ⟨by rfl, fun w' hw => ?_⟩) ?_
          rotate_left
          · obtain ⟨q1, q2, q3⟩ := hw; go_simp <;> with_reducible rfl
          try simp only [Act.put, List.setIfInBounds_toArray, List.set_cons_zero, List.set_cons_succ]
          refine rgs_t (v := ?_) (some 16) 2 (by kernel_rfl) rfl rfl (by assumption) (.inl ⟨by rfl, fun w' hw => ?_⟩) ?_
          rotate_left
          · obtain ⟨q1, q2, q3⟩ := hw; go_simp <;> with_reducible rfl
          try simp only [Act.put, List.setIfInBounds_toArray, List.set_cons_zero, List.set_cons_succ]
          refine rgs_t (v := ?_) (some 17) 3 (by kernel_rfl) rfl rfl (by assumption) (.inl ⟨by rfl, fun w' hw => ?_⟩) ?_
          rotate_left
          · obtain ⟨q1, q2, q3⟩ := hw; go_simp <;> with_reducible rfl
          try simp only [Act.put, List.setIfInBounds_toArray, List.set_cons_zero, List.set_cons_succ]
          refine rgs_t (v := ?_) (some 18) 4 (by kernel_rfl) rfl rfl (by assumption) (.inl ⟨by rfl, fun w' hw => ?_⟩) ?_
          rotate_left
          · obtain ⟨q1, q2, q3⟩ := hw; go_simp <;> with_reducible rfl
          try simp only [Act.put, List.setIfInBounds_toArray, List.set_cons_zero, List.set_cons_succ]
          refine rgs_t (some 19) 5 (by kernel_rfl) rfl rfl (by assumption) (.inr ⟨by rfl, rfl⟩) ?_
          try simp only [Act.put, List.setIfInBounds_toArray, List.set_cons_zero, List.set_cons_succ]
          refine rgs_t (some 20) 6 (by kernel_rfl) rfl rfl (by assumption) (.inr ⟨by rfl, rfl⟩) ?_
          try simp only [Act.put, List.setIfInBounds_toArray, List.set_cons_zero, List.set_cons_succ]
          refine rgs_t (some 21) 7 (by kernel_rfl) rfl rfl (by assumption) (.inr ⟨by rfl, rfl⟩) ?_
          try simp only [Act.put, List.setIfInBounds_toArray, List.set_cons_zero, List.set_cons_succ]
          refine rgs_t (some 22) 8 (by kernel_rfl) rfl rfl (by assumption) (.inr ⟨by rfl, rfl⟩) ?_
          try simp only [Act.put, List.setIfInBounds_toArray, List.set_cons_zero, List.set_cons_succ]
          refine rgs_t (some 23) 9 (by kernel_rfl) rfl rfl (by assumption) (.inr ⟨by rfl, rfl⟩) ?_
          try simp only [Act.put, List.setIfInBounds_toArray, List.set_cons_zero, List.set_cons_succ]
          refine rgs_t (some 24) 10 (by kernel_rfl) rfl rfl (by assumption) (.inr ⟨by rfl, rfl⟩) ?_
          try simp only [Act.put, List.setIfInBounds_toArray, List.set_cons_zero, List.set_cons_succ]
          refine rgs_t (some 25) 11 (by kernel_rfl) rfl rfl (by assumption) (.inr ⟨by rfl, rfl⟩) ?_
          try simp only [Act.put, List.setIfInBounds_toArray, List.set_cons_zero, List.set_cons_succ]
          refine rgs_t (v := ?_) (some 26) 12 (by kernel_rfl) rfl rfl (by assumption) (.inl ⟨by rfl, fun w' hw => ?_⟩) ?_
          rotate_left
          · obtain ⟨q1, q2, q3⟩ := hw; go_simp <;> with_reducible rfl
          try simp only [Act.put, List.setIfInBounds_toArray, List.set_cons_zero, List.set_cons_succ]
          refine rgs_d (by kernel_rfl) ?_
          go_wp2_with fail
          go_meet
          case rel => exact ⟨by rw [HE.out], HD.out⟩
        · have d1 : ((m : Int) == (n : Int)) = false := by simp; omega
          have HE := Lib.hid hb
          obtain ⟨sv, hsv⟩ : ∃ z, silR ch x y = z := ⟨_, rfl⟩
          rw [hsv] at HE
          have hxin : inR x = true := List.all_eq_true.1 HIN.out _ (List.mem_of_getElem? hx)
          have hyin : inR y = true := List.all_eq_true.1 HIN.out _ (List.mem_of_getElem? hy)
          have HSL := Lib.hid (fun (W : World) (h : Rd W B 3 (some ⟨b0, off, none⟩) n (evCells evs)) (hB : B ≤ W.heap.size) => rsil_eq b p ch HC.out evs (some ⟨b0, off, none⟩) n c B m (m - 1) x y sv W h hB (by omega) hml hn hx (by rw [show m - 1 + 1 = m by omega]; exact hy) hxin hyin hsv)
          clear hb hxin hyin hx hy hsv
          refine rgs_start (fun w' => w'.cell? ⟨w.heap.size, 0, none⟩ = some (.int .i64 b) ∧ w'.cell? ⟨w.heap.size, 1, none⟩ = some (.int .i64 p) ∧ True) (by kernel_rfl) ?_
          refine rgs_t (v := ?_) (some 14) 0 (by kernel_rfl) rfl rfl (by assumption) (.inl ⟨by rfl, fun w' hw => ?_⟩) ?_
          rotate_left
          · obtain ⟨q1, q2, q3⟩ := hw; go_simp <;> with_reducible rfl
          try simp only [Act.put, List.setIfInBounds_toArray, List.set_cons_zero, List.set_cons_succ]
          refine rgs_t (v := ?_) (some 15) 1 (by kernel_rfl) rfl rfl (by assumption) (.inl ⟨by rfl, fun w' hw => ?_⟩) ?_
          rotate_left
          · obtain ⟨q1, q2, q3⟩ := hw; go_simp <;> with_reducible rfl
          try simp only [Act.put, List.setIfInBounds_toArray, List.set_cons_zero, List.set_cons_succ]
          refine rgs_t (v := ?_) (some 16) 2 (by kernel_rfl) rfl rfl (by assumption) (.inl ⟨by rfl, fun w' hw => ?_⟩) ?_
          rotate_left
          · obtain ⟨q1, q2, q3⟩ := hw; go_simp <;> with_reducible rfl
          try simp only [Act.put, List.setIfInBounds_toArray, List.set_cons_zero, List.set_cons_succ]
          refine rgs_t (v := ?_) (some 17) 3 (by kernel_rfl) rfl rfl (by assumption) (.inl ⟨by rfl, fun w' hw => ?_⟩) ?_
          rotate_left
          · obtain ⟨q1, q2, q3⟩ := hw; go_simp <;> with_reducible rfl
          try simp only [Act.put, List.setIfInBounds_toArray, List.set_cons_zero, List.set_cons_succ]
          refine rgs_t (v := ?_) (some 18) 4 (by kernel_rfl) rfl rfl (by assumption) (.inl ⟨by rfl, fun w' hw => ?_⟩) ?_
          rotate_left
          · obtain ⟨q1, q2, q3⟩ := hw; go_simp <;> with_reducible rfl
          try simp only [Act.put, List.setIfInBounds_toArray, List.set_cons_zero, List.set_cons_succ]
          refine rgs_t (v := ?_) (some 19) 5 (by kernel_rfl) rfl rfl (by assumption) (.inl ⟨by rfl, fun w' hw => ?_⟩) ?_
          rotate_left
          · obtain ⟨q1, q2, q3⟩ := hw; go_simp <;> with_reducible rfl
          try simp only [Act.put, List.setIfInBounds_toArray, List.set_cons_zero, List.set_cons_succ]
          refine rgs_t (v := ?_) (some 20) 6 (by kernel_rfl) rfl rfl (by assumption) (.inl ⟨by rfl, fun w' hw => ?_⟩) ?_
          rotate_left
          · obtain ⟨q1, q2, q3⟩ := hw; go_simp <;> with_reducible rfl
          try simp only [Act.put, List.setIfInBounds_toArray, List.set_cons_zero, List.set_cons_succ]
          refine rgs_t (v := ?_) (some 21) 7 (by kernel_rfl) rfl rfl (by assumption) (.inl ⟨by rfl, fun w' hw => ?_⟩) ?_
          rotate_left
          · obtain ⟨q1, q2, q3⟩ := hw; go_simp <;> with_reducible rfl
          try simp only [Act.put, List.setIfInBounds_toArray, List.set_cons_zero, List.set_cons_succ]
          refine rgs_t (v := ?_) (some 23) 9 (by kernel_rfl) rfl rfl (by assumption) (.inl ⟨by rfl, fun w' hw => ?_⟩) ?_
          rotate_left
          · obtain ⟨q1, q2, q3⟩ := hw; go_simp <;> with_reducible rfl
          try simp only [Act.put, List.setIfInBounds_toArray, List.set_cons_zero, List.set_cons_succ]
          refine rgs_c 8 (by kernel_rfl) rfl (by rfl) (fun K hK => ?_)
          go_simp
          refine (HSL.out _ (HR.out.below HD.out.2.2.2 HBB.out) (Nat.le_trans HBB.out HD.out.2.2.2.size)).mono ?_
          rintro e x5 ⟨rfl, hb5⟩
          have HD5 := Lib.hid (HD.out.below hb5)
          have hS5 : x5.cell? ⟨w.heap.size, 0, none⟩ = some (.int .i64 b) ∧ x5.cell? ⟨w.heap.size, 1, none⟩ = some (.int .i64 p) ∧ True := ⟨HD5.out.1.1 0, HD5.out.1.1 1, trivial⟩
          refine hK _ _ hS5 ?_
          clear hb5 HD hS0
          clear hK K
          try simp only [Act.put, List.setIfInBounds_toArray, List.set_cons_zero, List.set_cons_succ]
          refine rgs_c 10 (by kernel_rfl) rfl (by rfl) (fun K hK => ?_)
          go_simp
          refine (HT.out _).mono ?_
          rintro e x6 ⟨rfl, hb6⟩
          have HD6 := Lib.hid (HD5.out.below hb6)
          have hS6 : x6.cell? ⟨w.heap.size, 0, none⟩ = some (.int .i64 b) ∧ x6.cell? ⟨w.heap.size, 1, none⟩ = some (.int .i64 p) ∧ True := ⟨HD6.out.1.1 0, HD6.out.1.1 1, trivial⟩
          refine hK _ _ hS6 ?_
          clear hb6 HD5 hS5
          clear hK K
          try simp only [Act.put, List.setIfInBounds_toArray, List.set_cons_zero, List.set_cons_succ]
          refine rgs_t (v := ?_) (some 25) 11 (by kernel_rfl) rfl rfl (by assumption) (.inl ⟨by rfl, fun w' hw => ?_⟩) ?_
          rotate_left
          · obtain ⟨q1, q2, q3⟩ := hw; go_simp <;> with_reducible rfl
          try simp only [Act.put, List.setIfInBounds_toArray, List.set_cons_zero, List.set_cons_succ]
          refine rgs_t (v := ?_) (some 26) 12 (by kernel_rfl) rfl rfl (by assumption) (.inl ⟨by rfl, fun w' hw => ?_⟩) ?_
          rotate_left
          · obtain ⟨q1, q2, q3⟩ := hw; go_simp <;> with_reducible rfl
          try simp only [Act.put, List.setIfInBounds_toArray, List.set_cons_zero, List.set_cons_succ]
          refine rgs_d (by kernel_rfl) ?_
          go_wp2_with fail
          go_meet
          case rel => exact ⟨by rw [HE.out], HD6.out⟩
      case rest =>
        obtain ⟨rfl, hfs⟩ := hcut
        have HF2 := Lib.hid hfs
        clear hfs HF1 HSAY HGO HEND
        cases eb
        · have HB := Lib.hid (HT2.out rfl)
          clear HT1 HT2
          go_wp2_with fail
          go_roundw
          case rel => exact ⟨m + 1, st, l, Ao, co, rfl, rfl, by go_num, by omega, by omega, by have := HLM.out; omega, fun h => ⟨by omega, HB.out.2.symm⟩, fun h => by have := HB.out.1; omega, HF2.out⟩
          case measure => simp [intOf]; omega
        · have HB := Lib.hid (HT1.out rfl)
          clear HT1 HT2
          go_upto_region 7 with fail
          have HLS := Lib.hid (HF2.out.below (below_drew (Below.refl _ _)))
          obtain ⟨rw1, hrw⟩ : ∃ r, (Value.slice Ao l.length co).ownBlock = r := ⟨_, rfl⟩
          have HRW := Lib.hid hrw
          have hbxn : ¬ (some w.heap.size = rw1) := by rw [← hrw]; exact ne_row HF2.out.2.1 (by omega)
          obtain ⟨x0, hx0⟩ : ∃ x, wc.drew = x := ⟨_, rfl⟩
          rw [hx0] at HLS
          have hsx : w.heap.size < x0.heap.size := HLS.out.1.2.2
          have y0 : x0.cell? ⟨w.heap.size, 0, none⟩ = some (.int .i64 b) := HLS.out.1.1 0
          have y1 : x0.cell? ⟨w.heap.size, 1, none⟩ = some (.int .i64 p) := HLS.out.1.1 1
          have hstm : st < m := hst
          have hstc : ¬ c = st := by omega
          have hmc2 : m ≤ c := by omega
          have hsm2 : st ≤ m := by omega
          obtain ⟨ln, hln⟩ : ∃ n, l.length = n := ⟨_, rfl⟩
          have HLN := Lib.hid hln
          rw [hln] at HLM HF2 HLS HRW
          rw [hln]
          clear hrw hln
          refine rgx_start_x (X := fun b => some b = rw1) (by kernel_rfl) ?_
          rw [hx0]
          refine rgx_t (v := ?_) (some 27) 0 (by kernel_rfl) rfl rfl (.inl ⟨by rfl, fun w' q => ?_⟩) ?_
          rotate_left
          · go_simp <;> with_reducible rfl
          try simp only [Act.put, List.setIfInBounds_toArray, List.set_cons_zero, List.set_cons_succ]
          refine rgx_t (v := ?_) (some 28) 1 (by kernel_rfl) rfl rfl (.inl ⟨by rfl, fun w' q => ?_⟩) ?_
          rotate_left
          · go_simp <;> with_reducible rfl
          try simp only [Act.put, List.setIfInBounds_toArray, List.set_cons_zero, List.set_cons_succ]
          refine rgx_t (v := ?_) (some 29) 2 (by kernel_rfl) rfl rfl (.inl ⟨by rfl, fun w' q => ?_⟩) ?_
          rotate_left
          · go_simp <;> with_reducible rfl
          try simp only [Act.put, List.setIfInBounds_toArray, List.set_cons_zero, List.set_cons_succ]
          refine rgx_t (v := ?_) (some 30) 3 (by kernel_rfl) rfl rfl (.inl ⟨by rfl, fun w' q => ?_⟩) ?_
          rotate_left
          · go_simp <;> with_reducible rfl
          try simp only [Act.put, List.setIfInBounds_toArray, List.set_cons_zero, List.set_cons_succ]
          refine rgx_t (v := ?_) (some 31) 4 (by kernel_rfl) rfl rfl (.inl ⟨by rfl, fun w' q => ?_⟩) ?_
          rotate_left
          · go_simp <;> with_reducible rfl
          try simp only [Act.put, List.setIfInBounds_toArray, List.set_cons_zero, List.set_cons_succ]
          refine rgx_t (v := ?_) (some 32) 5 (by kernel_rfl) rfl rfl (.inl ⟨by rfl, fun w' q => ?_⟩) ?_
          rotate_left
          · go_simp <;> with_reducible rfl
          try simp only [Act.put, List.setIfInBounds_toArray, List.set_cons_zero, List.set_cons_succ]
          refine rgx_1 6 (by kernel_rfl) ?_
          refine ⟨_, rfl, by rfl, fun K hK => ?_⟩
          go_simp
          refine (HFM.out _ (HR.out.below HLS.out.2.2.2 HBB.out) (Nat.le_trans HBB.out HLS.out.2.2.2.size)).mono ?_
          rintro e x1 ⟨A2, c2, rfl, hown, hb⟩
          have hfr : FrOk x1 (fun b => some b = (Value.slice Ao ln co).ownBlock) ⟨A2, F.xs.length, c2, F.xs, F.fi, F.la, F.fl⟩ := ⟨Rd.of_own hown, fun hn b off e hb => by
            simp only at e
            subst e
            have h1 := (hown.lt b rfl).1
            have h2 := (HLS.out.2.1.lt b hb.symm).2
            omega⟩
          have HLS := Lib.hid (HLS.out.below hb)
          have HFR := Lib.hid hfr
          refine hK (fun b => some b = rw1) _ _ (fun b h => .inl h) (Mem.of_below hb) ?_
          clear hb hown hfr
          clear hK K
          try simp only [Act.put, List.setIfInBounds_toArray, List.set_cons_zero, List.set_cons_succ]
          refine rgx_1 7 (by kernel_rfl) ?_
          refine ⟨_, rfl, by rfl, fun K hK => ?_⟩
          go_simp
          have hb := (Below.refl x1.heap.size x1).alloc (Nat.le_refl _) (.cells #[.slice A2 F.xs.length c2, .int .i64 F.fi, .int .i64 F.la, .int .i64 F.fl] 44)
          obtain ⟨bl, hbl2⟩ : ∃ bl, x1.heap.size = bl := ⟨_, rfl⟩
          have hRl : Rd (x1.alloc (.cells #[.slice A2 F.xs.length c2, .int .i64 F.fi, .int .i64 F.la, .int .i64 F.fl] 44)) (bl + 1) 4 (some ⟨bl, 0, none⟩) 1 (frRow ⟨A2, F.xs.length, c2, F.xs, F.fi, F.la, F.fl⟩) := by
            rw [← hbl2]
            have h := Rd.lit (w := x1) (size := 4) (n := 1) (cs := #[.slice A2 F.xs.length c2, .int .i64 F.fi, .int .i64 F.la, .int .i64 F.fl]) (e := 44) (fz := (0, 0)) (B := x1.heap.size + 1) rfl (by simp)
            simpa using h
          have HLS := Lib.hid (HLS.out.below hb)
          have HFR := Lib.hid (HFR.out.below hb)
          obtain ⟨x2, hW⟩ : ∃ W, x1.alloc (.cells #[.slice A2 F.xs.length c2, .int .i64 F.fi, .int .i64 F.la, .int .i64 F.fl] 44) = W := ⟨_, rfl⟩
          rw [hW] at HLS HFR hRl hb ⊢
          rw [hbl2]
          refine hK (fun b => some b = rw1) _ _ (fun b h => .inl h) (Mem.of_below hb) ?_
          have HRL := Lib.hid hRl
          clear hb hbl2 hRl hW
          clear hK K
          try simp only [Act.put, List.setIfInBounds_toArray, List.set_cons_zero, List.set_cons_succ]
          refine rgx_1 8 (by kernel_rfl) ?_
          refine ⟨_, rfl, by rfl, fun K hK => ?_⟩
          refine wp_appR (.tmp 27) (.tmp 34) 29 (w.heap.size + 1) 44 _ 4 48 (.slice Ao ln co) ln (frCells l) _ ⟨bl, 0, none⟩ 1 1 (frRow ⟨A2, F.xs.length, c2, F.xs, F.fi, F.la, F.fl⟩) Try.underlying29 frInfo rfl (by decide) rfl rfl rfl (by have h := HLS.out.2.1; rw [HLN.out] at h; exact h) HRL.out (one_fr _) (by have := HLM.out; omega) (by omega) (by have := HLS.out.1.2.2; omega) ?_
          intro v2 x3 hown2 hg2 hn2 hb2
          have hls := HLS.out.app HFR.out (by rw [HLN.out]; exact hown2) hg2 hn2
          have HLS := Lib.hid hls
          obtain ⟨A3, c3, hv2, _, _⟩ := own_form hown2
          subst hv2
          refine hK (fun b => some b = rw1) _ _ (fun b h => .inl h) (Mem.of_grown hg2 (fun b e => by rw [← HRW.out]; exact e.symm)) ?_
          clear hown2 hg2 hn2 hb2 hls
          clear hK K
          try simp only [Act.put, List.setIfInBounds_toArray, List.set_cons_zero, List.set_cons_succ]
          refine rgx_t (v := ?_) (some 5) 9 (by kernel_rfl) rfl rfl (.inl ⟨by rfl, fun w' q => ?_⟩) ?_
          rotate_left
          · go_simp <;> with_reducible rfl
          try simp only [Act.put, List.setIfInBounds_toArray, List.set_cons_zero, List.set_cons_succ]
          refine rgx_d (by kernel_rfl) ?_
          go_wp2_with fail
          go_roundw
          case rel =>
            have hlen : (l ++ [⟨A2, F.xs.length, c2, F.xs, F.fi, F.la, F.fl⟩] : List Fr).length = ln + 1 := by simp [HLN.out]
            refine ⟨m + 1, m, l ++ [⟨A2, F.xs.length, c2, F.xs, F.fi, F.la, F.fl⟩], A3, c3, by rw [hlen], rfl, by go_num, by omega, by omega, by rw [hlen]; have := HLM.out; omega, fun h => ⟨by omega, ?_⟩, fun h => ?_, by rw [hlen]; exact HLS.out⟩
            · rcases HB.out with h2 | h2
              · omega
              · rw [h2.2]; simp [fz]
            · rcases HB.out with h2 | h2
              · rw [h2.2]; simp [fz]
              · omega
          case measure => simp [intOf]; omega
    · have HZ := Lib.hid (HEND.out (by omega))
      have d1 : decide ((m : Int) ≤ (n : Int)) = false := by simp; omega
      go_wp2
      go_ret
      exact ⟨l, Ao, co, rfl, Rd.of_own HF1.out.2.1, fun f hf => (HF1.out.2.2.1 f hf).move (Nat.le_refl _) (fun _ _ _ => rfl) (fun _ _ h => h.elim), HZ.out, HF1.out.2.2.2⟩
end Go.Proofs.Ythgapllfjllnfaa

/- Layer 22: contract of the reference's Feed. -/
import Derived.Test.YtpbmolijoadonaaIdC
import Derived.Test.YtpbmolijoadonaaIdG
import Derived.Test.YtpbmolijoadonaaRegH
import Derived.Test.YtpbmolijoadonaaRefu
set_option linter.unusedVariables false
set_option linter.unusedSimpArgs false
namespace Go.Proofs.Ytpbmolijoadonaa
open Go.RowKit

theorem grown_two {w x x' : World} {g : Nat} {row : Option Nat} (h : w.grownBy x (some g)) (k : x.grownBy x' row) (hr : ∀ b, row = some b → w.heap.size ≤ b) : w.grownBy x' (some g) :=
  ⟨k.os.trans h.os, k.tape.trans h.tape, k.output.trans h.output, Nat.le_trans h.size k.size, fun i hi hn => (k.block i (Nat.lt_of_lt_of_le hi h.size) (fun e => by have := hr i e.symm; omega)).trans (h.block i hi hn)⟩
theorem Vals.any {w : World} {g : Nat} {row row' : Option Nat} {F : Nat → Prop} {l : List Ob} (h : Vals w g row F l) (hr : ∀ b, row' = some b → w.heap.size ≤ b) : Vals w g row' F l := by
  intro o ho
  obtain ⟨h1, h2⟩ := h o ho
  refine ⟨h1, fun hn b off e => ⟨(h2 hn b off e).1, fun e2 => ?_, (h2 hn b off e).2.2⟩⟩
  obtain ⟨b2, off2, e3, hb2, _⟩ := h1.2 hn
  rw [e] at e3
  injection e3 with e3
  injection e3 with e4 _
  have := hr b e2.symm
  omega
def RfOk (w : World) (g : Nat) (F : Nat → Prop) (S : Ist) (w' : World) : Prop := ∃ row', IdAt w' g F row' S ∧ w.grownBy w' (some g)
set_option maxRecDepth 100000 in
set_option maxHeartbeats 1000000 in
theorem rclosed_any (S : Ist) (g : Nat) (F : Nat → Prop) (row : Option Nat) (o : Oc) (w : World) (hS : IdAt w g F row S) (h0 : S.st ≠ 0) : Calls Try.prog 16 #[iptr g, .agg (ocArr o)] w fun e w' => e = .returned (.int .i64 12) ∧ Below w.heap.size w w' := by
  obtain ⟨lv, nx, rp, v, l, hrow, hB, hO, hfr, hV, h4, h5⟩ := hS
  obtain ⟨V, oF, E, dA, dn, dc, C, L, M, N, oA, oc, dxs, oos⟩ := o
  obtain ⟨st, hst⟩ : ∃ st, S.st = st := ⟨_, rfl⟩
  rw [hst] at hB h0
  have hd : (st != 0) = true := by simpa using h0
  obtain ⟨q1, z1, l1⟩ := hB.alloc' (.cells #[.int .i64 V, .int .i64 oF, .int .i64 E, .slice dA dn dc, .int .i64 C, .int .i64 L, .bool M, .int .i64 N, .slice oA oos.length oc] 44)
  have hgl := hB.2.2
  clear h4 h5 hV hfr hO hrow hst h0 hB
  go_enter Try.func16, Try.ntmps16
  go_wp2
  go_ret
  exact ⟨rfl, (Below.refl _ _).alloc (Nat.le_refl _) _⟩
set_option maxRecDepth 100000 in
set_option maxHeartbeats 16000000 in
theorem rfeed_any (S : Ist) (g : Nat) (F : Nat → Prop) (row : Option Nat) (o : Oc) (w : World) (hS : IdAt w g F row S) (h0 : S.st = 0) (hask : 0 ≤ S.ask ∧ S.ask ≤ 9223372036854775807) (hcnt : S.cnt < 32) (hlen : S.os.length ≤ 40 * S.cnt) (ho : OcFed w g row o) (hov : Vals w g none F o.os) (hF : ∀ b, F b → b < w.heap.size) :
    Calls Try.prog 16 #[iptr g, .agg (ocArr o)] w fun e w' => e = .returned (.int .i64 0) ∧ RfOk w g F (stepI S o) w' := by
  obtain ⟨lv, nx, rp, v, l, hrow, hB, hO, hfr, hV, h4, h5⟩ := hS
  obtain ⟨rfl, hcon⟩ := h4 (.inl h0)
  obtain ⟨rfl, rfl⟩ := h5 h0
  rw [h0] at hB
  obtain ⟨st, lv, ask, cnt, sos⟩ := S
  dsimp only at h0 hask hcnt hlen hB hcon
  subst h0
  obtain ⟨V, oF, E, dA, dn, dc, C, L, M, N, oA, oc, dxs, oos⟩ := o
  obtain ⟨n, hn⟩ : ∃ n, oos.length = n := ⟨_, rfl⟩
  obtain ⟨ho1, ho1b, ho2, ho3, ho4⟩ := ho
  dsimp only at ho1 ho1b ho2 ho3 ho4 hov
  unfold ocArr
  dsimp only
  rw [hn] at ho1 ho1b ho2 ⊢
  obtain ⟨A0, c0, hv0, _, hR0⟩ := own_form hO
  subst hv0
  obtain ⟨l0, hl0⟩ : ∃ l0, l.length = l0 := ⟨_, rfl⟩
  rw [hl0] at hB hO hR0
  have hl0b : l0 ≤ 1280 := by have := congrArg List.length hcon; rw [con_length] at this; omega
  have hgl := hB.2.2
  have hRL : ∀ W, w.grownBy W (some g) → Rd W W.heap.size 2 A0 l0 (obCells l) := fun W h => (hR0.off_row h (Nat.le_refl _) (fun b off e e2 => by
    injection e2 with e2
    have := (hO.lt b (by rw [e]; rfl)).1
    omega)).more h.size
  have hRO : ∀ W, w.grownBy W (some g) → Rd W W.heap.size 2 oA n (obCells oos) := fun W h => ho1.other h.size (fun b off hn0 e hb => h.block b hb (by intro e2; injection e2 with e2; exact (ho1b hn0 b off e).1 e2))
  have HRL := Lib.hid hRL
  have HRO := Lib.hid hRO
  obtain ⟨gd, hgd⟩ : ∃ gd, (decide (V = 1 ∧ oF = 43) && ordB M N (ids oos) ask) = gd := ⟨_, rfl⟩
  have hgb : goodB ⟨V, oF, E, dA, dn, dc, C, L, M, N, oA, oc, dxs, oos⟩ ask = gd := by rw [← hgd]; rfl
  have HGB := Lib.hid hgb
  -- the states behind
  have fin : ∀ (W : World) (st' c1 c3 c4 : Int) (S' : Ist), w.grownBy W (some g) → Box W g #[.int .i64 st', .int .i64 c1, .slice A0 l0 c0, .int .i64 c3, .int .i64 c4] → S'.st = st' → st' ≠ 0 → st' ≠ 2 → RfOk w g F S' W := by
    intro W st' c1 c3 c4 S' h hb hs h1 h2
    refine ⟨row, ⟨c1, c3, c4, _, l, hrow, by rw [hs, hl0]; exact hb, ?_, hfr, hV.other h.size (fun b hlt hne _ _ => h.block b hlt (by intro e; injection e with e; exact hne e)), fun k => ?_, fun k => ?_⟩, h⟩
    · rw [hl0]
      exact own_off hO h (fun b e e2 => by injection e2 with e2; have := (hO.lt b e).1; omega)
    · rw [hs] at k; rcases k with k | k; exact absurd k h1; exact absurd k h2
    · rw [hs] at k; exact absurd k h1
  have fin0 : ∀ (W : World) (st' c1 c3 c4 : Int) (S' : Ist), w.grownBy W (some g) → Box W g #[.int .i64 st', .int .i64 c1, .slice none 0 0, .int .i64 c3, .int .i64 c4] → S'.st = st' → st' ≠ 0 → st' ≠ 2 → RfOk w g F S' W := by
    intro W st' c1 c3 c4 S' h hb hs h1 h2
    refine ⟨none, ⟨c1, c3, c4, .slice none 0 0, [], rfl, by rw [hs]; exact hb, World.ownsRow_nil _ _ _ _, fun b e => (by cases e), fun o ho => (by simp at ho), fun k => ?_, fun k => ?_⟩, h⟩
    · rw [hs] at k; rcases k with k | k; exact absurd k h1; exact absurd k h2
    · rw [hs] at k; exact absurd k h1
  have finC : ∀ (W : World) (st' : Int) (v2 : Value), w.grownBy W (some g) → Box W g #[.int .i64 st', .int .i64 L, v2, .int .i64 N, .int .i64 ((cnt : Int) + 1)] → W.ownsRow (g + 1) 48 2 v2 (l0 + n) (obCells l ++ obCells oos) → (∀ b, v2.ownBlock = some b → w.heap.size ≤ b) → RfOk w g F ⟨st', L, N, cnt + 1, sos ++ con oos⟩ W := by
    intro W st' v2 h hb how hnew
    have hv2 : Vals w g v2.ownBlock F (l ++ oos) := (hV.any hnew).append (hov.any hnew)
    refine ⟨v2.ownBlock, ⟨L, N, (cnt : Int) + 1, v2, l ++ oos, rfl, hb, by rw [obCells_append, List.length_append, hl0, hn]; exact how, fun b e hf => ?_, hv2.other h.size (fun b hlt hne _ _ => h.block b hlt (by intro e; injection e with e; exact hne e)), fun _ => ⟨rfl, by rw [con, List.map_append]; show con l ++ con oos = _; rw [hcon]⟩, fun _ => ⟨rfl, by show (cnt : Int) + 1 = ((cnt + 1 : Nat) : Int); omega⟩⟩, h⟩
    have := hnew b e; have := hF b hf; omega
  have FIN := Lib.hid fin
  have FIN0 := Lib.hid fin0
  have FINC := Lib.hid finC
  have HGD := Lib.hid (fun (W : World) (h : w.grownBy W (some g)) => good_any V oF E C L N ask M dA oA dn dc n oc W.heap.size oos W (hRO W h) (by omega) hask gd hgd)
  obtain ⟨rr, hrr⟩ : ∃ r, (V == 2 && E == 1) = r := ⟨_, rfl⟩
  have HRF := Lib.hid (fun (W : World) => refused_any V oF E C L N 1 M dA oA dn dc n oc rr hrr W)
  obtain ⟨r0, hr0⟩ : ∃ r, (decide (cnt = 0) && rr) = r := ⟨_, rfl⟩
  obtain ⟨T, hT⟩ : ∃ T, stepI ⟨0, lv, ask, cnt, sos⟩ ⟨V, oF, E, dA, dn, dc, C, L, M, N, oA, oc, dxs, oos⟩ = T := ⟨_, rfl⟩
  obtain ⟨bad, hbad⟩ : ∃ r, (!gd || (decide (0 < cnt) && (L != lv))) = r := ⟨_, rfl⟩
  have hTA : r0 = true → T = ⟨5, lv, ask, cnt, sos⟩ := fun h => by
    rw [← hr0, ← hrr] at h
    simp only [Bool.and_eq_true, decide_eq_true_eq, beq_iff_eq] at h
    rw [← hT, stepI, if_pos ⟨h.2.1, h.2.2, h.1⟩]
  have hTB : r0 = false → T = if bad = true then ⟨4, lv, ask, cnt, sos⟩ else ⟨if M = false then 2 else if cnt + 1 = 32 then 4 else 0, L, N, cnt + 1, sos ++ con oos⟩ := fun h => by
    rw [← hr0, ← hrr] at h
    have hA : ¬ (V = 2 ∧ E = 1 ∧ cnt = 0) := by
      rintro ⟨h1, h2, h3⟩
      simp [h1, h2, h3] at h
    rw [← hT, stepI, if_neg hA]
    by_cases hq : goodB ⟨V, oF, E, dA, dn, dc, C, L, M, N, oA, oc, dxs, oos⟩ ask = false ∨ (0 < cnt ∧ L ≠ lv)
    · have hb1 : bad = true := by
        rw [← hbad]
        rw [hgb] at hq
        rcases hq with h | h
        · simp [h]
        · simp [h.1, h.2]
      rw [if_pos hq, hb1]; rfl
    · have hb1 : bad = false := by
        rw [← hbad]
        rw [hgb] at hq
        cases hx : (!gd || (decide (0 < cnt) && (L != lv)))
        · rfl
        · exfalso
          simp only [Bool.or_eq_true, Bool.not_eq_true', Bool.and_eq_true, decide_eq_true_eq, bne_iff_ne] at hx
          exact hq hx
      rw [if_neg hq, hb1]; rfl
  have HTA := Lib.hid hTA
  have HTB := Lib.hid hTB
  rw [hT]
  have HRR := Lib.hid hr0
  have HBD := Lib.hid hbad
  clear hTA hTB hT hrr hr0 hbad
  have HB1 := Lib.hid (hB.alloc' (.cells #[.int .i64 V, .int .i64 oF, .int .i64 E, .slice dA dn dc, .int .i64 C, .int .i64 L, .bool M, .int .i64 N, .slice oA n oc] 44))
  have HBo := Lib.hid (Box.alloc_ (w := w) (cs := #[.int .i64 V, .int .i64 oF, .int .i64 E, .slice dA dn dc, .int .i64 C, .int .i64 L, .bool M, .int .i64 N, .slice oA n oc]) (e := 44))
  have hbw : Below w.heap.size w (w.alloc (.cells #[.int .i64 V, .int .i64 oF, .int .i64 E, .slice dA dn dc, .int .i64 C, .int .i64 L, .bool M, .int .i64 N, .slice oA n oc] 44)) := (Below.refl _ _).alloc (Nat.le_refl _) _
  have HHN := Lib.hid hn
  have HHL := Lib.hid hl0
  clear h4 h5 hB hO hR0 hV hov ho1 ho1b ho3 ho4 hRL hRO hgb hgd fin fin0 finC hrow hcon hfr hF hn hl0 hlen
  obtain ⟨q1, z1, lz1⟩ := HB1.out
  go_enter Try.func16, Try.ntmps16
  go_upto_region 3 with fail
  obtain ⟨W0, hW0⟩ : ∃ W0, w.alloc (.cells #[.int .i64 V, .int .i64 oF, .int .i64 E, .slice dA dn dc, .int .i64 C, .int .i64 L, .bool M, .int .i64 N, .slice oA n oc] 44) = W0 := ⟨_, rfl⟩
  rw [hW0] at HB1 HBo hbw q1 z1 lz1 ⊢
  have hgrw : w.grownBy W0 (some g) := one_below (one_refl w g) hbw
  clear hW0
  have hbog : w.heap.size ≠ g := by omega
  have HGx := HB1.out.set (k := 4) (v := .int .i64 ((cnt : Int) + 1)) (cs' := #[.int .i64 0, .int .i64 lv, .slice A0 l0 c0, .int .i64 ask, .int .i64 ((cnt : Int) + 1)]) (by simp) rfl
  have HBx := HBo.out.grown (one_set (one_refl W0 g) 4 (.int .i64 ((cnt : Int) + 1))) hbog
  have hgx := one_set hgrw 4 (.int .i64 ((cnt : Int) + 1))
  go_upto_region 4 with fail
  obtain ⟨W1, hW1⟩ : ∃ W, W0.setCell ⟨g, 4, none⟩ (.int .i64 ((cnt : Int) + 1)) = W := ⟨_, rfl⟩
  rw [hW1] at HGx HBx hgx ⊢
  have HG := Lib.hid HGx
  have HBo := Lib.hid HBx
  have HGR := Lib.hid hgx
  clear hW1 HGx HBx hgx hgrw hbw q1 z1 lz1 HB1
  go_cut [25] (fun v x => v = .bool r0 ∧ Below W1.heap.size W1 x)
  case first =>
    obtain ⟨q1, z1, lz1⟩ := HG.out
    obtain ⟨qo, zo, lzo⟩ := HBo.out
    by_cases hc0 : cnt = 0
    · have d1 : ((cnt : Int) + 1 == 1) = true := by simp; omega
      obtain rfl : rr = r0 := by rw [← HRR.out]; simp [hc0]
      clear hc0
      go_wp2_with fail
      refine (HRF.out _).mono ?_
      rintro e x2 ⟨rfl, hb2⟩
      go_wp2_with fail
      go_meet
      case rel => exact ⟨rfl, hb2⟩
    · have d1 : ((cnt : Int) + 1 == 1) = false := by simp; omega
      obtain rfl : r0 = false := by rw [← HRR.out]; simp [hc0]
      clear hc0
      go_wp2_with fail
      go_meet
      case rel => exact ⟨rfl, Below.refl _ _⟩
  case rest =>
    obtain ⟨rfl, hbc⟩ := hcut
    obtain ⟨x1, hx1⟩ : ∃ x, x = wc := ⟨_, rfl⟩
    subst hx1
    have HG := Lib.hid (HG.out.below hbc)
    have HBo := Lib.hid (HBo.out.below hbc)
    have HGR := Lib.hid (one_below HGR.out hbc)
    clear hbc
    cases r0
    · have HTB2 := Lib.hid (HTB.out rfl)
      go_upto_region 7 with fail
      go_cut [52] (fun v x => v = .bool bad ∧ Below x1.heap.size x1 x)
      case first =>
        obtain ⟨lq, hlq⟩ : ∃ q, (L != lv) = q := ⟨_, rfl⟩
        have hbd := HBD.out
        rw [hlq] at hbd
        cases gd
        · obtain rfl : bad = true := by rw [← hbd]; rfl
          clear hbd
          have hS : (∀ i, x1.drew.cell? ⟨w.heap.size, i, none⟩ = (#[.int .i64 V, .int .i64 oF, .int .i64 E, .slice dA dn dc, .int .i64 C, .int .i64 L, .bool M, .int .i64 N, .slice oA n oc] : Array Value)[i]?) ∧ (∀ i, x1.drew.cell? ⟨g, i, none⟩ = (#[.int .i64 0, .int .i64 lv, .slice A0 l0 c0, .int .i64 ask, .int .i64 ((cnt : Int) + 1)] : Array Value)[i]?) ∧ True := ⟨HBo.out.1, HG.out.1, trivial⟩
          refine rgs_start (fun w' => (∀ i, w'.cell? ⟨w.heap.size, i, none⟩ = (#[.int .i64 V, .int .i64 oF, .int .i64 E, .slice dA dn dc, .int .i64 C, .int .i64 L, .bool M, .int .i64 N, .slice oA n oc] : Array Value)[i]?) ∧ (∀ i, w'.cell? ⟨g, i, none⟩ = (#[.int .i64 0, .int .i64 lv, .slice A0 l0 c0, .int .i64 ask, .int .i64 ((cnt : Int) + 1)] : Array Value)[i]?) ∧ True) (by kernel_rfl) ?_
          refine rgs_t (v := ?_) (some 29) 0 (by kernel_rfl) rfl rfl (by assumption) (.inl ⟨by rfl, fun w' hw => ?_⟩) ?_
          rotate_left
          · obtain ⟨q1, q2, q3⟩ := hw; go_simp <;> with_reducible rfl
          try simp only [Act.put, List.setIfInBounds_toArray, List.set_cons_zero, List.set_cons_succ]
          refine rgs_t (v := ?_) (some 30) 1 (by kernel_rfl) rfl rfl (by assumption) (.inl ⟨by rfl, fun w' hw => ?_⟩) ?_
          rotate_left
          · obtain ⟨q1, q2, q3⟩ := hw; go_simp <;> with_reducible rfl
          try simp only [Act.put, List.setIfInBounds_toArray, List.set_cons_zero, List.set_cons_succ]
          refine rgs_t (v := ?_) (some 31) 2 (by kernel_rfl) rfl rfl (by assumption) (.inl ⟨by rfl, fun w' hw => ?_⟩) ?_
          rotate_left
          · obtain ⟨q1, q2, q3⟩ := hw; go_simp <;> with_reducible rfl
          try simp only [Act.put, List.setIfInBounds_toArray, List.set_cons_zero, List.set_cons_succ]
          refine rgs_t (v := ?_) (some 32) 3 (by kernel_rfl) rfl rfl (by assumption) (.inl ⟨by rfl, fun w' hw => ?_⟩) ?_
          rotate_left
          · obtain ⟨q1, q2, q3⟩ := hw; go_simp <;> with_reducible rfl
          try simp only [Act.put, List.setIfInBounds_toArray, List.set_cons_zero, List.set_cons_succ]
          refine rgs_t (v := ?_) (some 33) 4 (by kernel_rfl) rfl rfl (by assumption) (.inl ⟨by rfl, fun w' hw => ?_⟩) ?_
          rotate_left
          · obtain ⟨q1, q2, q3⟩ := hw; go_simp <;> with_reducible rfl
          try simp only [Act.put, List.setIfInBounds_toArray, List.set_cons_zero, List.set_cons_succ]
          refine rgs_c 5 (by kernel_rfl) rfl (by rfl) (fun K hK => ?_)
          go_simp
          refine (HGD.out _ (one_drew HGR.out)).mono ?_
          rintro e x2 ⟨rfl, hb2⟩
          have hbc : Below x1.heap.size x1 x2 := (below_drew (Below.refl _ _)).trans hb2
          have hS1 : (∀ i, x2.cell? ⟨w.heap.size, i, none⟩ = (#[.int .i64 V, .int .i64 oF, .int .i64 E, .slice dA dn dc, .int .i64 C, .int .i64 L, .bool M, .int .i64 N, .slice oA n oc] : Array Value)[i]?) ∧ (∀ i, x2.cell? ⟨g, i, none⟩ = (#[.int .i64 0, .int .i64 lv, .slice A0 l0 c0, .int .i64 ask, .int .i64 ((cnt : Int) + 1)] : Array Value)[i]?) ∧ True := ⟨(HBo.out.below hbc).1, (HG.out.below hbc).1, trivial⟩
          refine hK _ _ hS1 ?_
          clear hK K
          try simp only [Act.put, List.setIfInBounds_toArray, List.set_cons_zero, List.set_cons_succ]
          refine rgs_t (v := ?_) (some 35) 6 (by kernel_rfl) rfl rfl (by assumption) (.inl ⟨by rfl, fun w' hw => ?_⟩) ?_
          rotate_left
          · obtain ⟨q1, q2, q3⟩ := hw; go_simp <;> with_reducible rfl
          try simp only [Act.put, List.setIfInBounds_toArray, List.set_cons_zero, List.set_cons_succ]
          refine rgs_t (v := ?_) (some 36) 7 (by kernel_rfl) rfl rfl (by assumption) (.inl ⟨by rfl, fun w' hw => ?_⟩) ?_
          rotate_left
          · obtain ⟨q1, q2, q3⟩ := hw; go_simp <;> with_reducible rfl
          try simp only [Act.put, List.setIfInBounds_toArray, List.set_cons_zero, List.set_cons_succ]
          refine rgs_t (some 37) 8 (by kernel_rfl) rfl rfl (by assumption) (.inr ⟨by rfl, rfl⟩) ?_
          try simp only [Act.put, List.setIfInBounds_toArray, List.set_cons_zero, List.set_cons_succ]
          refine rgs_t (some 38) 9 (by kernel_rfl) rfl rfl (by assumption) (.inr ⟨by rfl, rfl⟩) ?_
          try simp only [Act.put, List.setIfInBounds_toArray, List.set_cons_zero, List.set_cons_succ]
          refine rgs_t (some 39) 10 (by kernel_rfl) rfl rfl (by assumption) (.inr ⟨by rfl, rfl⟩) ?_
          try simp only [Act.put, List.setIfInBounds_toArray, List.set_cons_zero, List.set_cons_succ]
          refine rgs_t (some 40) 11 (by kernel_rfl) rfl rfl (by assumption) (.inr ⟨by rfl, rfl⟩) ?_
          try simp only [Act.put, List.setIfInBounds_toArray, List.set_cons_zero, List.set_cons_succ]
          refine rgs_t (some 41) 12 (by kernel_rfl) rfl rfl (by assumption) (.inr ⟨by rfl, rfl⟩) ?_
          try simp only [Act.put, List.setIfInBounds_toArray, List.set_cons_zero, List.set_cons_succ]
          refine rgs_t (some 42) 13 (by kernel_rfl) rfl rfl (by assumption) (.inr ⟨by rfl, rfl⟩) ?_
          try simp only [Act.put, List.setIfInBounds_toArray, List.set_cons_zero, List.set_cons_succ]
          refine rgs_t (some 43) 14 (by kernel_rfl) rfl rfl (by assumption) (.inr ⟨by rfl, rfl⟩) ?_
          try simp only [Act.put, List.setIfInBounds_toArray, List.set_cons_zero, List.set_cons_succ]
          refine rgs_t (some 44) 15 (by kernel_rfl) rfl rfl (by assumption) (.inr ⟨by rfl, rfl⟩) ?_
          try simp only [Act.put, List.setIfInBounds_toArray, List.set_cons_zero, List.set_cons_succ]
          refine rgs_t (some 45) 16 (by kernel_rfl) rfl rfl (by assumption) (.inr ⟨by rfl, rfl⟩) ?_
          try simp only [Act.put, List.setIfInBounds_toArray, List.set_cons_zero, List.set_cons_succ]
          refine rgs_t (some 46) 17 (by kernel_rfl) rfl rfl (by assumption) (.inr ⟨by rfl, rfl⟩) ?_
          try simp only [Act.put, List.setIfInBounds_toArray, List.set_cons_zero, List.set_cons_succ]
          refine rgs_t (some 47) 18 (by kernel_rfl) rfl rfl (by assumption) (.inr ⟨by rfl, rfl⟩) ?_
          try simp only [Act.put, List.setIfInBounds_toArray, List.set_cons_zero, List.set_cons_succ]
          refine rgs_t (some 48) 19 (by kernel_rfl) rfl rfl (by assumption) (.inr ⟨by rfl, rfl⟩) ?_
          try simp only [Act.put, List.setIfInBounds_toArray, List.set_cons_zero, List.set_cons_succ]
          refine rgs_t (some 49) 20 (by kernel_rfl) rfl rfl (by assumption) (.inr ⟨by rfl, rfl⟩) ?_
          try simp only [Act.put, List.setIfInBounds_toArray, List.set_cons_zero, List.set_cons_succ]
          refine rgs_t (some 50) 21 (by kernel_rfl) rfl rfl (by assumption) (.inr ⟨by rfl, rfl⟩) ?_
          try simp only [Act.put, List.setIfInBounds_toArray, List.set_cons_zero, List.set_cons_succ]
          refine rgs_t (some 51) 22 (by kernel_rfl) rfl rfl (by assumption) (.inr ⟨by rfl, rfl⟩) ?_
          try simp only [Act.put, List.setIfInBounds_toArray, List.set_cons_zero, List.set_cons_succ]
          refine rgs_t (v := ?_) (some 52) 23 (by kernel_rfl) rfl rfl (by assumption) (.inl ⟨by rfl, fun w' hw => ?_⟩) ?_
          rotate_left
          · obtain ⟨q1, q2, q3⟩ := hw; go_simp <;> with_reducible rfl
          try simp only [Act.put, List.setIfInBounds_toArray, List.set_cons_zero, List.set_cons_succ]
          refine rgs_d (by kernel_rfl) ?_
          go_wp2_with fail
          go_meet
          case rel => exact ⟨by first | rfl | simp, hbc⟩
        · by_cases hc0 : 0 < cnt
          · have d1 : decide ((1 : Int) < (cnt : Int) + 1) = true := by simp; omega
            obtain rfl : bad = lq := by rw [← hbd]; simp [hc0]
            clear hbd hc0
            have hS : (∀ i, x1.drew.cell? ⟨w.heap.size, i, none⟩ = (#[.int .i64 V, .int .i64 oF, .int .i64 E, .slice dA dn dc, .int .i64 C, .int .i64 L, .bool M, .int .i64 N, .slice oA n oc] : Array Value)[i]?) ∧ (∀ i, x1.drew.cell? ⟨g, i, none⟩ = (#[.int .i64 0, .int .i64 lv, .slice A0 l0 c0, .int .i64 ask, .int .i64 ((cnt : Int) + 1)] : Array Value)[i]?) ∧ True := ⟨HBo.out.1, HG.out.1, trivial⟩
            refine rgs_start (fun w' => (∀ i, w'.cell? ⟨w.heap.size, i, none⟩ = (#[.int .i64 V, .int .i64 oF, .int .i64 E, .slice dA dn dc, .int .i64 C, .int .i64 L, .bool M, .int .i64 N, .slice oA n oc] : Array Value)[i]?) ∧ (∀ i, w'.cell? ⟨g, i, none⟩ = (#[.int .i64 0, .int .i64 lv, .slice A0 l0 c0, .int .i64 ask, .int .i64 ((cnt : Int) + 1)] : Array Value)[i]?) ∧ True) (by kernel_rfl) ?_
            refine rgs_t (v := ?_) (some 29) 0 (by kernel_rfl) rfl rfl (by assumption) (.inl ⟨by rfl, fun w' hw => ?_⟩) ?_
            rotate_left
            · obtain ⟨q1, q2, q3⟩ := hw; go_simp <;> with_reducible rfl
            try simp only [Act.put, List.setIfInBounds_toArray, List.set_cons_zero, List.set_cons_succ]
            refine rgs_t (v := ?_) (some 30) 1 (by kernel_rfl) rfl rfl (by assumption) (.inl ⟨by rfl, fun w' hw => ?_⟩) ?_
            rotate_left
            · obtain ⟨q1, q2, q3⟩ := hw; go_simp <;> with_reducible rfl
            try simp only [Act.put, List.setIfInBounds_toArray, List.set_cons_zero, List.set_cons_succ]
            refine rgs_t (v := ?_) (some 31) 2 (by kernel_rfl) rfl rfl (by assumption) (.inl ⟨by rfl, fun w' hw => ?_⟩) ?_
            rotate_left
            · obtain ⟨q1, q2, q3⟩ := hw; go_simp <;> with_reducible rfl
            try simp only [Act.put, List.setIfInBounds_toArray, List.set_cons_zero, List.set_cons_succ]
            refine rgs_t (v := ?_) (some 32) 3 (by kernel_rfl) rfl rfl (by assumption) (.inl ⟨by rfl, fun w' hw => ?_⟩) ?_
            rotate_left
            · obtain ⟨q1, q2, q3⟩ := hw; go_simp <;> with_reducible rfl
            try simp only [Act.put, List.setIfInBounds_toArray, List.set_cons_zero, List.set_cons_succ]
            refine rgs_t (v := ?_) (some 33) 4 (by kernel_rfl) rfl rfl (by assumption) (.inl ⟨by rfl, fun w' hw => ?_⟩) ?_
            rotate_left
            · obtain ⟨q1, q2, q3⟩ := hw; go_simp <;> with_reducible rfl
            try simp only [Act.put, List.setIfInBounds_toArray, List.set_cons_zero, List.set_cons_succ]
            refine rgs_c 5 (by kernel_rfl) rfl (by rfl) (fun K hK => ?_)
            go_simp
            refine (HGD.out _ (one_drew HGR.out)).mono ?_
            rintro e x2 ⟨rfl, hb2⟩
            have hbc : Below x1.heap.size x1 x2 := (below_drew (Below.refl _ _)).trans hb2
            have hS1 : (∀ i, x2.cell? ⟨w.heap.size, i, none⟩ = (#[.int .i64 V, .int .i64 oF, .int .i64 E, .slice dA dn dc, .int .i64 C, .int .i64 L, .bool M, .int .i64 N, .slice oA n oc] : Array Value)[i]?) ∧ (∀ i, x2.cell? ⟨g, i, none⟩ = (#[.int .i64 0, .int .i64 lv, .slice A0 l0 c0, .int .i64 ask, .int .i64 ((cnt : Int) + 1)] : Array Value)[i]?) ∧ True := ⟨(HBo.out.below hbc).1, (HG.out.below hbc).1, trivial⟩
            refine hK _ _ hS1 ?_
            clear hK K
            try simp only [Act.put, List.setIfInBounds_toArray, List.set_cons_zero, List.set_cons_succ]
            refine rgs_t (v := ?_) (some 35) 6 (by kernel_rfl) rfl rfl (by assumption) (.inl ⟨by rfl, fun w' hw => ?_⟩) ?_
            rotate_left
            · obtain ⟨q1, q2, q3⟩ := hw; go_simp <;> with_reducible rfl
            try simp only [Act.put, List.setIfInBounds_toArray, List.set_cons_zero, List.set_cons_succ]
            refine rgs_t (v := ?_) (some 36) 7 (by kernel_rfl) rfl rfl (by assumption) (.inl ⟨by rfl, fun w' hw => ?_⟩) ?_
            rotate_left
            · obtain ⟨q1, q2, q3⟩ := hw; go_simp <;> with_reducible rfl
            try simp only [Act.put, List.setIfInBounds_toArray, List.set_cons_zero, List.set_cons_succ]
            refine rgs_t (v := ?_) (some 37) 8 (by kernel_rfl) rfl rfl (by assumption) (.inl ⟨by rfl, fun w' hw => ?_⟩) ?_
            rotate_left
            · obtain ⟨q1, q2, q3⟩ := hw; go_simp <;> with_reducible rfl
            try simp only [Act.put, List.setIfInBounds_toArray, List.set_cons_zero, List.set_cons_succ]
            refine rgs_t (v := ?_) (some 38) 9 (by kernel_rfl) rfl rfl (by assumption) (.inl ⟨by rfl, fun w' hw => ?_⟩) ?_
            rotate_left
            · obtain ⟨q1, q2, q3⟩ := hw; go_simp <;> with_reducible rfl
            try simp only [Act.put, List.setIfInBounds_toArray, List.set_cons_zero, List.set_cons_succ]
            refine rgs_t (v := ?_) (some 39) 10 (by kernel_rfl) rfl rfl (by assumption) (.inl ⟨by rfl, fun w' hw => ?_⟩) ?_
            rotate_left
            · obtain ⟨q1, q2, q3⟩ := hw; go_simp <;> with_reducible rfl
            try simp only [Act.put, List.setIfInBounds_toArray, List.set_cons_zero, List.set_cons_succ]
            refine rgs_t (v := ?_) (some 40) 11 (by kernel_rfl) rfl rfl (by assumption) (.inl ⟨by rfl, fun w' hw => ?_⟩) ?_
            rotate_left
            · obtain ⟨q1, q2, q3⟩ := hw; go_simp <;> with_reducible rfl
            try simp only [Act.put, List.setIfInBounds_toArray, List.set_cons_zero, List.set_cons_succ]
            refine rgs_t (v := ?_) (some 41) 12 (by kernel_rfl) rfl rfl (by assumption) (.inl ⟨by rfl, fun w' hw => ?_⟩) ?_
            rotate_left
            · obtain ⟨q1, q2, q3⟩ := hw; go_simp <;> with_reducible rfl
            try simp only [Act.put, List.setIfInBounds_toArray, List.set_cons_zero, List.set_cons_succ]
            refine rgs_t (v := ?_) (some 42) 13 (by kernel_rfl) rfl rfl (by assumption) (.inl ⟨by rfl, fun w' hw => ?_⟩) ?_
            rotate_left
            · obtain ⟨q1, q2, q3⟩ := hw; go_simp <;> with_reducible rfl
            try simp only [Act.put, List.setIfInBounds_toArray, List.set_cons_zero, List.set_cons_succ]
            refine rgs_t (v := ?_) (some 43) 14 (by kernel_rfl) rfl rfl (by assumption) (.inl ⟨by rfl, fun w' hw => ?_⟩) ?_
            rotate_left
            · obtain ⟨q1, q2, q3⟩ := hw; go_simp <;> with_reducible rfl
            try simp only [Act.put, List.setIfInBounds_toArray, List.set_cons_zero, List.set_cons_succ]
            refine rgs_t (v := ?_) (some 44) 15 (by kernel_rfl) rfl rfl (by assumption) (.inl ⟨by rfl, fun w' hw => ?_⟩) ?_
            rotate_left
            · obtain ⟨q1, q2, q3⟩ := hw; go_simp <;> with_reducible rfl
            try simp only [Act.put, List.setIfInBounds_toArray, List.set_cons_zero, List.set_cons_succ]
            refine rgs_t (v := ?_) (some 45) 16 (by kernel_rfl) rfl rfl (by assumption) (.inl ⟨by rfl, fun w' hw => ?_⟩) ?_
            rotate_left
            · obtain ⟨q1, q2, q3⟩ := hw; go_simp <;> with_reducible rfl
            try simp only [Act.put, List.setIfInBounds_toArray, List.set_cons_zero, List.set_cons_succ]
            refine rgs_t (v := ?_) (some 46) 17 (by kernel_rfl) rfl rfl (by assumption) (.inl ⟨by rfl, fun w' hw => ?_⟩) ?_
            rotate_left
            · obtain ⟨q1, q2, q3⟩ := hw; go_simp <;> with_reducible rfl
            try simp only [Act.put, List.setIfInBounds_toArray, List.set_cons_zero, List.set_cons_succ]
            refine rgs_t (v := ?_) (some 47) 18 (by kernel_rfl) rfl rfl (by assumption) (.inl ⟨by rfl, fun w' hw => ?_⟩) ?_
            rotate_left
            · obtain ⟨q1, q2, q3⟩ := hw; go_simp <;> with_reducible rfl
            try simp only [Act.put, List.setIfInBounds_toArray, List.set_cons_zero, List.set_cons_succ]
            refine rgs_t (v := ?_) (some 48) 19 (by kernel_rfl) rfl rfl (by assumption) (.inl ⟨by rfl, fun w' hw => ?_⟩) ?_
            rotate_left
            · obtain ⟨q1, q2, q3⟩ := hw; go_simp <;> with_reducible rfl
            try simp only [Act.put, List.setIfInBounds_toArray, List.set_cons_zero, List.set_cons_succ]
            refine rgs_t (v := ?_) (some 49) 20 (by kernel_rfl) rfl rfl (by assumption) (.inl ⟨by rfl, fun w' hw => ?_⟩) ?_
            rotate_left
            · obtain ⟨q1, q2, q3⟩ := hw; go_simp <;> with_reducible rfl
            try simp only [Act.put, List.setIfInBounds_toArray, List.set_cons_zero, List.set_cons_succ]
            refine rgs_t (v := ?_) (some 50) 21 (by kernel_rfl) rfl rfl (by assumption) (.inl ⟨by rfl, fun w' hw => ?_⟩) ?_
            rotate_left
            · obtain ⟨q1, q2, q3⟩ := hw; go_simp <;> with_reducible rfl
            try simp only [Act.put, List.setIfInBounds_toArray, List.set_cons_zero, List.set_cons_succ]
            refine rgs_t (v := ?_) (some 51) 22 (by kernel_rfl) rfl rfl (by assumption) (.inl ⟨by rfl, fun w' hw => ?_⟩) ?_
            rotate_left
            · obtain ⟨q1, q2, q3⟩ := hw; go_simp <;> with_reducible rfl
            try simp only [Act.put, List.setIfInBounds_toArray, List.set_cons_zero, List.set_cons_succ]
            refine rgs_t (v := ?_) (some 52) 23 (by kernel_rfl) rfl rfl (by assumption) (.inl ⟨by rfl, fun w' hw => ?_⟩) ?_
            rotate_left
            · obtain ⟨q1, q2, q3⟩ := hw; go_simp <;> with_reducible rfl
            try simp only [Act.put, List.setIfInBounds_toArray, List.set_cons_zero, List.set_cons_succ]
            refine rgs_d (by kernel_rfl) ?_
            go_wp2_with fail
            go_meet
            case rel => exact ⟨by first | rfl | simp, hbc⟩
          · have d1 : decide ((1 : Int) < (cnt : Int) + 1) = false := by simp; omega
            obtain rfl : bad = false := by rw [← hbd]; simp [hc0]
            clear hbd hc0
            have hS : (∀ i, x1.drew.cell? ⟨w.heap.size, i, none⟩ = (#[.int .i64 V, .int .i64 oF, .int .i64 E, .slice dA dn dc, .int .i64 C, .int .i64 L, .bool M, .int .i64 N, .slice oA n oc] : Array Value)[i]?) ∧ (∀ i, x1.drew.cell? ⟨g, i, none⟩ = (#[.int .i64 0, .int .i64 lv, .slice A0 l0 c0, .int .i64 ask, .int .i64 ((cnt : Int) + 1)] : Array Value)[i]?) ∧ True := ⟨HBo.out.1, HG.out.1, trivial⟩
            refine rgs_start (fun w' => (∀ i, w'.cell? ⟨w.heap.size, i, none⟩ = (#[.int .i64 V, .int .i64 oF, .int .i64 E, .slice dA dn dc, .int .i64 C, .int .i64 L, .bool M, .int .i64 N, .slice oA n oc] : Array Value)[i]?) ∧ (∀ i, w'.cell? ⟨g, i, none⟩ = (#[.int .i64 0, .int .i64 lv, .slice A0 l0 c0, .int .i64 ask, .int .i64 ((cnt : Int) + 1)] : Array Value)[i]?) ∧ True) (by kernel_rfl) ?_
            refine rgs_t (v := ?_) (some 29) 0 (by kernel_rfl) rfl rfl (by assumption) (.inl ⟨by rfl, fun w' hw => ?_⟩) ?_
            rotate_left
            · obtain ⟨q1, q2, q3⟩ := hw; go_simp <;> with_reducible rfl
            try simp only [Act.put, List.setIfInBounds_toArray, List.set_cons_zero, List.set_cons_succ]
            refine rgs_t (v := ?_) (some 30) 1 (by kernel_rfl) rfl rfl (by assumption) (.inl ⟨by rfl, fun w' hw => ?_⟩) ?_
            rotate_left
            · obtain ⟨q1, q2, q3⟩ := hw; go_simp <;> with_reducible rfl
            try simp only [Act.put, List.setIfInBounds_toArray, List.set_cons_zero, List.set_cons_succ]
            refine rgs_t (v := ?_) (some 31) 2 (by kernel_rfl) rfl rfl (by assumption) (.inl ⟨by rfl, fun w' hw => ?_⟩) ?_
            rotate_left
            · obtain ⟨q1, q2, q3⟩ := hw; go_simp <;> with_reducible rfl
            try simp only [Act.put, List.setIfInBounds_toArray, List.set_cons_zero, List.set_cons_succ]
            refine rgs_t (v := ?_) (some 32) 3 (by kernel_rfl) rfl rfl (by assumption) (.inl ⟨by rfl, fun w' hw => ?_⟩) ?_
            rotate_left
            · obtain ⟨q1, q2, q3⟩ := hw; go_simp <;> with_reducible rfl
            try simp only [Act.put, List.setIfInBounds_toArray, List.set_cons_zero, List.set_cons_succ]
            refine rgs_t (v := ?_) (some 33) 4 (by kernel_rfl) rfl rfl (by assumption) (.inl ⟨by rfl, fun w' hw => ?_⟩) ?_
            rotate_left
            · obtain ⟨q1, q2, q3⟩ := hw; go_simp <;> with_reducible rfl
            try simp only [Act.put, List.setIfInBounds_toArray, List.set_cons_zero, List.set_cons_succ]
            refine rgs_c 5 (by kernel_rfl) rfl (by rfl) (fun K hK => ?_)
            go_simp
            refine (HGD.out _ (one_drew HGR.out)).mono ?_
            rintro e x2 ⟨rfl, hb2⟩
            have hbc : Below x1.heap.size x1 x2 := (below_drew (Below.refl _ _)).trans hb2
            have hS1 : (∀ i, x2.cell? ⟨w.heap.size, i, none⟩ = (#[.int .i64 V, .int .i64 oF, .int .i64 E, .slice dA dn dc, .int .i64 C, .int .i64 L, .bool M, .int .i64 N, .slice oA n oc] : Array Value)[i]?) ∧ (∀ i, x2.cell? ⟨g, i, none⟩ = (#[.int .i64 0, .int .i64 lv, .slice A0 l0 c0, .int .i64 ask, .int .i64 ((cnt : Int) + 1)] : Array Value)[i]?) ∧ True := ⟨(HBo.out.below hbc).1, (HG.out.below hbc).1, trivial⟩
            refine hK _ _ hS1 ?_
            clear hK K
            try simp only [Act.put, List.setIfInBounds_toArray, List.set_cons_zero, List.set_cons_succ]
            refine rgs_t (v := ?_) (some 35) 6 (by kernel_rfl) rfl rfl (by assumption) (.inl ⟨by rfl, fun w' hw => ?_⟩) ?_
            rotate_left
            · obtain ⟨q1, q2, q3⟩ := hw; go_simp <;> with_reducible rfl
            try simp only [Act.put, List.setIfInBounds_toArray, List.set_cons_zero, List.set_cons_succ]
            refine rgs_t (v := ?_) (some 36) 7 (by kernel_rfl) rfl rfl (by assumption) (.inl ⟨by rfl, fun w' hw => ?_⟩) ?_
            rotate_left
            · obtain ⟨q1, q2, q3⟩ := hw; go_simp <;> with_reducible rfl
            try simp only [Act.put, List.setIfInBounds_toArray, List.set_cons_zero, List.set_cons_succ]
            refine rgs_t (v := ?_) (some 37) 8 (by kernel_rfl) rfl rfl (by assumption) (.inl ⟨by rfl, fun w' hw => ?_⟩) ?_
            rotate_left
            · obtain ⟨q1, q2, q3⟩ := hw; go_simp <;> with_reducible rfl
            try simp only [Act.put, List.setIfInBounds_toArray, List.set_cons_zero, List.set_cons_succ]
            refine rgs_t (v := ?_) (some 38) 9 (by kernel_rfl) rfl rfl (by assumption) (.inl ⟨by rfl, fun w' hw => ?_⟩) ?_
            rotate_left
            · obtain ⟨q1, q2, q3⟩ := hw; go_simp <;> with_reducible rfl
            try simp only [Act.put, List.setIfInBounds_toArray, List.set_cons_zero, List.set_cons_succ]
            refine rgs_t (v := ?_) (some 39) 10 (by kernel_rfl) rfl rfl (by assumption) (.inl ⟨by rfl, fun w' hw => ?_⟩) ?_
            rotate_left
            · obtain ⟨q1, q2, q3⟩ := hw; go_simp <;> with_reducible rfl
            try simp only [Act.put, List.setIfInBounds_toArray, List.set_cons_zero, List.set_cons_succ]
            refine rgs_t (v := ?_) (some 40) 11 (by kernel_rfl) rfl rfl (by assumption) (.inl ⟨by rfl, fun w' hw => ?_⟩) ?_
            rotate_left
            · obtain ⟨q1, q2, q3⟩ := hw; go_simp <;> with_reducible rfl
            try simp only [Act.put, List.setIfInBounds_toArray, List.set_cons_zero, List.set_cons_succ]
            refine rgs_t (v := ?_) (some 41) 12 (by kernel_rfl) rfl rfl (by assumption) (.inl ⟨by rfl, fun w' hw => ?_⟩) ?_
            rotate_left
            · obtain ⟨q1, q2, q3⟩ := hw; go_simp <;> with_reducible rfl
            try simp only [Act.put, List.setIfInBounds_toArray, List.set_cons_zero, List.set_cons_succ]
            refine rgs_t (v := ?_) (some 42) 13 (by kernel_rfl) rfl rfl (by assumption) (.inl ⟨by rfl, fun w' hw => ?_⟩) ?_
            rotate_left
            · obtain ⟨q1, q2, q3⟩ := hw; go_simp <;> with_reducible rfl
            try simp only [Act.put, List.setIfInBounds_toArray, List.set_cons_zero, List.set_cons_succ]
            refine rgs_t (some 43) 14 (by kernel_rfl) rfl rfl (by assumption) (.inr ⟨by rfl, rfl⟩) ?_
            try simp only [Act.put, List.setIfInBounds_toArray, List.set_cons_zero, List.set_cons_succ]
            refine rgs_t (some 44) 15 (by kernel_rfl) rfl rfl (by assumption) (.inr ⟨by rfl, rfl⟩) ?_
            try simp only [Act.put, List.setIfInBounds_toArray, List.set_cons_zero, List.set_cons_succ]
            refine rgs_t (some 45) 16 (by kernel_rfl) rfl rfl (by assumption) (.inr ⟨by rfl, rfl⟩) ?_
            try simp only [Act.put, List.setIfInBounds_toArray, List.set_cons_zero, List.set_cons_succ]
            refine rgs_t (some 46) 17 (by kernel_rfl) rfl rfl (by assumption) (.inr ⟨by rfl, rfl⟩) ?_
            try simp only [Act.put, List.setIfInBounds_toArray, List.set_cons_zero, List.set_cons_succ]
            refine rgs_t (some 47) 18 (by kernel_rfl) rfl rfl (by assumption) (.inr ⟨by rfl, rfl⟩) ?_
            try simp only [Act.put, List.setIfInBounds_toArray, List.set_cons_zero, List.set_cons_succ]
            refine rgs_t (some 48) 19 (by kernel_rfl) rfl rfl (by assumption) (.inr ⟨by rfl, rfl⟩) ?_
            try simp only [Act.put, List.setIfInBounds_toArray, List.set_cons_zero, List.set_cons_succ]
            refine rgs_t (some 49) 20 (by kernel_rfl) rfl rfl (by assumption) (.inr ⟨by rfl, rfl⟩) ?_
            try simp only [Act.put, List.setIfInBounds_toArray, List.set_cons_zero, List.set_cons_succ]
            refine rgs_t (some 50) 21 (by kernel_rfl) rfl rfl (by assumption) (.inr ⟨by rfl, rfl⟩) ?_
            try simp only [Act.put, List.setIfInBounds_toArray, List.set_cons_zero, List.set_cons_succ]
            refine rgs_t (v := ?_) (some 51) 22 (by kernel_rfl) rfl rfl (by assumption) (.inl ⟨by rfl, fun w' hw => ?_⟩) ?_
            rotate_left
            · obtain ⟨q1, q2, q3⟩ := hw; go_simp <;> with_reducible rfl
            try simp only [Act.put, List.setIfInBounds_toArray, List.set_cons_zero, List.set_cons_succ]
            refine rgs_t (v := ?_) (some 52) 23 (by kernel_rfl) rfl rfl (by assumption) (.inl ⟨by rfl, fun w' hw => ?_⟩) ?_
            rotate_left
            · obtain ⟨q1, q2, q3⟩ := hw; go_simp <;> with_reducible rfl
            try simp only [Act.put, List.setIfInBounds_toArray, List.set_cons_zero, List.set_cons_succ]
            refine rgs_d (by kernel_rfl) ?_
            go_wp2_with fail
            go_meet
            case rel => exact ⟨by first | rfl | simp, hbc⟩
      case rest =>
        obtain ⟨rfl, hbc⟩ := hcut
        obtain ⟨x2, hx2⟩ : ∃ x, x = wc := ⟨_, rfl⟩
        subst hx2
        have HG := Lib.hid (HG.out.below hbc)
        have HBo := Lib.hid (HBo.out.below hbc)
        have HGR := Lib.hid (one_below HGR.out hbc)
        clear hbc
        cases bad
        · have HTC := Lib.hid (HTB2.out.trans (if_neg (by simp)))
          go_upto_region 10 with fail
          go_cut [] (fun x => Box x g #[.int .i64 0, .int .i64 L, .slice A0 l0 c0, .int .i64 N, .int .i64 ((cnt : Int) + 1)] ∧ Box x w.heap.size #[.int .i64 V, .int .i64 oF, .int .i64 E, .slice dA dn dc, .int .i64 C, .int .i64 L, .bool M, .int .i64 N, .slice oA n oc] ∧ w.grownBy x (some g))
          case first =>
            have HG := Lib.hid HG.out.drew
            have HBo := Lib.hid HBo.out.drew
            have HGR := Lib.hid (one_drew HGR.out)
            obtain ⟨y0, hy0⟩ : ∃ y, x2.drew = y := ⟨_, rfl⟩
            rw [hy0] at HG HBo HGR
            obtain ⟨qo, zo, lzo⟩ := HBo.out
            have hbog2 : ¬ (w.heap.size = g) := hbog
            refine rgx_start_x (X := fun b => b = g) (by kernel_rfl) ?_
            rw [hy0]
            refine rgx_t (v := ?_) (some 62) 0 (by kernel_rfl) rfl rfl (.inl ⟨by rfl, fun w' q => ?_⟩) ?_
            rotate_left
            · go_simp <;> with_reducible rfl
            try simp only [Act.put, List.setIfInBounds_toArray, List.set_cons_zero, List.set_cons_succ]
            refine rgx_t (v := ?_) (some 63) 1 (by kernel_rfl) rfl rfl (.inl ⟨by rfl, fun w' q => ?_⟩) ?_
            rotate_left
            · go_simp <;> with_reducible rfl
            try simp only [Act.put, List.setIfInBounds_toArray, List.set_cons_zero, List.set_cons_succ]
            refine rgx_t (v := ?_) (some 64) 2 (by kernel_rfl) rfl rfl (.inl ⟨by rfl, fun w' q => ?_⟩) ?_
            rotate_left
            · go_simp <;> with_reducible rfl
            try simp only [Act.put, List.setIfInBounds_toArray, List.set_cons_zero, List.set_cons_succ]
            refine rgx_t (v := ?_) (some 65) 3 (by kernel_rfl) rfl rfl (.inl ⟨by rfl, fun w' q => ?_⟩) ?_
            rotate_left
            · go_simp <;> with_reducible rfl
            try simp only [Act.put, List.setIfInBounds_toArray, List.set_cons_zero, List.set_cons_succ]
            refine rgx_t (v := ?_) (some 66) 4 (by kernel_rfl) rfl rfl (.inl ⟨by rfl, fun w' q => ?_⟩) ?_
            rotate_left
            · go_simp <;> with_reducible rfl
            try simp only [Act.put, List.setIfInBounds_toArray, List.set_cons_zero, List.set_cons_succ]
            refine rgx_t (v := ?_) (some 67) 5 (by kernel_rfl) rfl rfl (.inl ⟨by rfl, fun w' q => ?_⟩) ?_
            rotate_left
            · go_simp <;> with_reducible rfl
            try simp only [Act.put, List.setIfInBounds_toArray, List.set_cons_zero, List.set_cons_succ]
            refine rgx_t (v := ?_) (some 68) 6 (by kernel_rfl) rfl rfl (.inl ⟨by rfl, fun w' q => ?_⟩) ?_
            rotate_left
            · go_simp <;> with_reducible rfl
            try simp only [Act.put, List.setIfInBounds_toArray, List.set_cons_zero, List.set_cons_succ]
            refine rgx_t (v := ?_) (some 69) 7 (by kernel_rfl) rfl rfl (.inl ⟨by rfl, fun w' q => ?_⟩) ?_
            rotate_left
            · go_simp <;> with_reducible rfl
            try simp only [Act.put, List.setIfInBounds_toArray, List.set_cons_zero, List.set_cons_succ]
            refine rgx_t (v := ?_) (some 70) 8 (by kernel_rfl) rfl rfl (.inl ⟨by rfl, fun w' q => ?_⟩) ?_
            rotate_left
            · go_simp <;> with_reducible rfl
            try simp only [Act.put, List.setIfInBounds_toArray, List.set_cons_zero, List.set_cons_succ]
            refine rgx_t (v := ?_) (some 71) 9 (by kernel_rfl) rfl rfl (.inl ⟨by rfl, fun w' q => ?_⟩) ?_
            rotate_left
            · go_simp <;> with_reducible rfl
            try simp only [Act.put, List.setIfInBounds_toArray, List.set_cons_zero, List.set_cons_succ]
            refine rgx_1 10 (by kernel_rfl) ?_
            refine ⟨_, rfl, by rfl, fun K hK => ?_⟩
            obtain ⟨q4, z4, l4⟩ := HG.out
            go_simp
            have hB := HG.out.set (k := 1) (v := (.int .i64 L)) (cs' := #[.int .i64 0, .int .i64 L, .slice A0 l0 c0, .int .i64 ask, .int .i64 ((cnt : Int) + 1)]) (by simp) rfl
            have hg1 := one_set HGR.out 1 (.int .i64 L)
            have hm : Mem (fun b => b = g) y0 (y0.setCell ⟨g, 1, none⟩ (.int .i64 L)) := (Mem.refl _ _).of_set rfl
            try have HBo := Lib.hid (HBo.out.grown (one_set (one_refl y0 g) 1 (.int .i64 L)) hbog)
            obtain ⟨x1, hW⟩ : ∃ W, y0.setCell ⟨g, 1, none⟩ (.int .i64 L) = W := ⟨_, rfl⟩
            rw [hW] at hB hg1 hm ⊢
            try rw [hW] at HBo
            have HG := Lib.hid hB
            have HGR := Lib.hid hg1
            refine hK (fun b => b = g) _ _ (fun b h => .inl h) hm ?_
            clear q4 z4 l4 hm hW hB hg1
            clear hK K
            try simp only [Act.put, List.setIfInBounds_toArray, List.set_cons_zero, List.set_cons_succ]
            refine rgx_t (v := ?_) (some 72) 11 (by kernel_rfl) rfl rfl (.inl ⟨by rfl, fun w' q => ?_⟩) ?_
            rotate_left
            · go_simp <;> with_reducible rfl
            try simp only [Act.put, List.setIfInBounds_toArray, List.set_cons_zero, List.set_cons_succ]
            refine rgx_t (v := ?_) (some 73) 12 (by kernel_rfl) rfl rfl (.inl ⟨by rfl, fun w' q => ?_⟩) ?_
            rotate_left
            · go_simp <;> with_reducible rfl
            try simp only [Act.put, List.setIfInBounds_toArray, List.set_cons_zero, List.set_cons_succ]
            refine rgx_1 13 (by kernel_rfl) ?_
            refine ⟨_, rfl, by rfl, fun K hK => ?_⟩
            obtain ⟨q4, z4, l4⟩ := HG.out
            go_simp
            have hB := HG.out.set (k := 3) (v := (.int .i64 N)) (cs' := #[.int .i64 0, .int .i64 L, .slice A0 l0 c0, .int .i64 N, .int .i64 ((cnt : Int) + 1)]) (by simp) rfl
            have hg1 := one_set HGR.out 3 (.int .i64 N)
            have hm : Mem (fun b => b = g) x1 (x1.setCell ⟨g, 3, none⟩ (.int .i64 N)) := (Mem.refl _ _).of_set rfl
            try have HBo := Lib.hid (HBo.out.grown (one_set (one_refl x1 g) 3 (.int .i64 N)) hbog)
            obtain ⟨x2, hW⟩ : ∃ W, x1.setCell ⟨g, 3, none⟩ (.int .i64 N) = W := ⟨_, rfl⟩
            rw [hW] at hB hg1 hm ⊢
            try rw [hW] at HBo
            have HG := Lib.hid hB
            have HGR := Lib.hid hg1
            refine hK (fun b => b = g) _ _ (fun b h => .inl h) hm ?_
            clear q4 z4 l4 hm hW hB hg1
            clear hK K
            try simp only [Act.put, List.setIfInBounds_toArray, List.set_cons_zero, List.set_cons_succ]
            refine rgx_d (by kernel_rfl) ?_
            go_wp2_with fail
            go_meet
            case rel => exact ⟨HG.out, HBo.out, HGR.out⟩
          case rest =>
            obtain ⟨hG3, hB3, hR3⟩ := hcut
            have HG := Lib.hid hG3
            have HBo := Lib.hid hB3
            have HGR := Lib.hid hR3
            obtain ⟨x3, hx3⟩ : ∃ x, x = wc := ⟨_, rfl⟩
            subst hx3
            clear hG3 hB3 hR3
            go_upto_region 11 with fail
            go_cut [] (fun x => ∃ v2 : Value, Box x g #[.int .i64 0, .int .i64 L, v2, .int .i64 N, .int .i64 ((cnt : Int) + 1)] ∧ Box x w.heap.size #[.int .i64 V, .int .i64 oF, .int .i64 E, .slice dA dn dc, .int .i64 C, .int .i64 L, .bool M, .int .i64 N, .slice oA n oc] ∧ x.ownsRow (g + 1) 48 2 v2 (l0 + n) (obCells l ++ obCells oos) ∧ (∀ b, v2.ownBlock = some b → w.heap.size ≤ b) ∧ w.grownBy x (some g))
            case first =>
              have HG := Lib.hid HG.out.drew
              have HBo := Lib.hid HBo.out.drew
              have HGR := Lib.hid (one_drew HGR.out)
              obtain ⟨y0, hy0⟩ : ∃ y, x3.drew = y := ⟨_, rfl⟩
              rw [hy0] at HG HBo HGR
              obtain ⟨qo, zo, lzo⟩ := HBo.out
              have hbog2 : ¬ (w.heap.size = g) := hbog
              obtain ⟨ys, hys⟩ : ∃ ys, y0.heap.size = ys := ⟨_, rfl⟩
              have hwys : w.heap.size ≤ ys := by rw [← hys]; exact HGR.out.size
              have hgys : g < ys := by rw [← hys]; exact HG.out.2.2
              have hbys : w.heap.size < ys := by rw [← hys]; exact lzo
              have HYS := Lib.hid hys
              clear hys
              refine rgx_start_x (X := fun b => b = g) (by kernel_rfl) ?_
              rw [hy0]
              refine rgx_t (v := ?_) (some 74) 0 (by kernel_rfl) rfl rfl (.inl ⟨by rfl, fun w' q => ?_⟩) ?_
              rotate_left
              · go_simp <;> with_reducible rfl
              try simp only [Act.put, List.setIfInBounds_toArray, List.set_cons_zero, List.set_cons_succ]
              refine rgx_t (v := ?_) (some 75) 1 (by kernel_rfl) rfl rfl (.inl ⟨by rfl, fun w' q => ?_⟩) ?_
              rotate_left
              · go_simp <;> with_reducible rfl
              try simp only [Act.put, List.setIfInBounds_toArray, List.set_cons_zero, List.set_cons_succ]
              refine rgx_t (v := ?_) (some 76) 2 (by kernel_rfl) rfl rfl (.inl ⟨by rfl, fun w' q => ?_⟩) ?_
              rotate_left
              · go_simp <;> with_reducible rfl
              try simp only [Act.put, List.setIfInBounds_toArray, List.set_cons_zero, List.set_cons_succ]
              refine rgx_t (v := ?_) (some 77) 3 (by kernel_rfl) rfl rfl (.inl ⟨by rfl, fun w' q => ?_⟩) ?_
              rotate_left
              · go_simp <;> with_reducible rfl
              try simp only [Act.put, List.setIfInBounds_toArray, List.set_cons_zero, List.set_cons_succ]
              refine rgx_t (v := ?_) (some 80) 6 (by kernel_rfl) rfl rfl (.inl ⟨by rfl, fun w' q => ?_⟩) ?_
              rotate_left
              · go_simp <;> with_reducible rfl
              try simp only [Act.put, List.setIfInBounds_toArray, List.set_cons_zero, List.set_cons_succ]
              refine rgx_t (v := ?_) (some 81) 7 (by kernel_rfl) rfl rfl (.inl ⟨by rfl, fun w' q => ?_⟩) ?_
              rotate_left
              · go_simp <;> with_reducible rfl
              try simp only [Act.put, List.setIfInBounds_toArray, List.set_cons_zero, List.set_cons_succ]
              refine rgx_t (v := ?_) (some 82) 8 (by kernel_rfl) rfl rfl (.inl ⟨by rfl, fun w' q => ?_⟩) ?_
              rotate_left
              · go_simp <;> with_reducible rfl
              try simp only [Act.put, List.setIfInBounds_toArray, List.set_cons_zero, List.set_cons_succ]
              refine rgx_1 4 (by kernel_rfl) ?_
              refine ⟨_, rfl, by rfl, fun K hK => ?_⟩
              obtain ⟨q4, z4, l4⟩ := HG.out
              go_simp
              obtain ⟨x1, hE⟩ : ∃ W : World, W = y0 := ⟨_, rfl⟩
              subst hE
              refine hK (fun b => b = g) _ _ (fun b h => .inl h) (Mem.refl _ _) ?_
              clear q4 z4 l4
              clear hK K
              try simp only [Act.put, List.setIfInBounds_toArray, List.set_cons_zero, List.set_cons_succ]
              refine rgx_1 5 (by kernel_rfl) ?_
              refine ⟨_, rfl, by rfl, fun K hK => ?_⟩
              refine wp_appO (.const (.slice none 0 0)) (.tmp 78) 28 x1.heap.size 48 _ 2 32 _ 0 [] _ A0 l0 c0 (obCells l) Try.underlying28 objInfo rfl (by decide) rfl rfl rfl (World.ownsRow_nil _ _ _ _) (HRL.out _ HGR.out) (one_ob l) (by omega) (by omega) (Nat.le_refl _) ?_
              intro v1 x2 hown1 hg1 hn1 hb1
              rw [Nat.zero_add, List.nil_append] at hown1
              have HOW := Lib.hid (own_mono hown1 (show g + 1 ≤ x1.heap.size by have := HYS.out; omega))
              have HNW := Lib.hid (show ∀ b, v1.ownBlock = some b → ys ≤ b from fun b e => by have := (hown1.lt b e).1; have := HYS.out; omega)
              have HG := Lib.hid (HG.out.below hb1)
              have HGR := Lib.hid (one_below HGR.out hb1)
              have HBo := Lib.hid (HBo.out.below hb1)
              have hm1 : ys ≤ x2.heap.size := by have := hb1.size; have := HYS.out; omega
              obtain ⟨A1, c1, hv1, _, _⟩ := own_form hown1
              subst hv1
              refine hK (fun b => b = g ∨ ys ≤ b) _ _ (fun b h => h.imp (fun h => h) (fun h => by have := HYS.out; omega)) (Mem.of_below hb1) ?_
              clear hown1 hg1 hn1 hb1
              clear hK K
              try simp only [Act.put, List.setIfInBounds_toArray, List.set_cons_zero, List.set_cons_succ]
              refine rgx_1 9 (by kernel_rfl) ?_
              refine ⟨_, rfl, by rfl, fun K hK => ?_⟩
              refine wp_appO (.tmp 79) (.tmp 82) 28 (g + 1) 48 _ 2 32 _ l0 (obCells l) _ oA n oc (obCells oos) Try.underlying28 objInfo rfl (by decide) rfl rfl rfl HOW.out (HRO.out _ HGR.out) (one_ob oos) (by omega) (by omega) (by omega) ?_
              intro v2 x3 hown2 hg2 hn2 hb2
              have hne : some g ≠ (Value.slice A1 l0 c1).ownBlock := fun e => by have := HNW.out g e.symm; omega
              have hne2 : some w.heap.size ≠ (Value.slice A1 l0 c1).ownBlock := fun e => by have := HNW.out _ e.symm; omega
              have hrow2 : ∀ b, v2.ownBlock = some b → ys ≤ b := by
                intro b e
                rcases hn2 with h | ⟨c, h, hc⟩
                · exact HNW.out b (h.symm.trans e)
                · rw [h] at e; injection e with e; omega
              have HG := Lib.hid (HG.out.row hg2 hne)
              have HBo := Lib.hid (HBo.out.row hg2 hne2)
              have HGR := Lib.hid (grown_two HGR.out hg2 (fun b e => by have := HNW.out b e; omega))
              have HOW := Lib.hid hown2
              have HNW2 := Lib.hid hrow2
              obtain ⟨A2, c2, hv2, _, _⟩ := own_form hown2
              subst hv2
              have hmem : Mem (fun b => b = g ∨ ys ≤ b) x2 x3 := ⟨hg2.size, fun b hb hn => hg2.block b hb (fun e => hn (.inr (HNW.out b e.symm)))⟩
              refine hK (fun b => b = g ∨ ys ≤ b) _ _ (fun b h => .inl h) hmem ?_
              clear hown2 hg2 hn2 hne hne2 hrow2 hmem hb2
              clear hK K
              try simp only [Act.put, List.setIfInBounds_toArray, List.set_cons_zero, List.set_cons_succ]
              refine rgx_t (v := ?_) (some 84) 10 (by kernel_rfl) rfl rfl (.inl ⟨by rfl, fun w' q => ?_⟩) ?_
              rotate_left
              · go_simp <;> with_reducible rfl
              try simp only [Act.put, List.setIfInBounds_toArray, List.set_cons_zero, List.set_cons_succ]
              refine rgx_t (v := ?_) (some 85) 11 (by kernel_rfl) rfl rfl (.inl ⟨by rfl, fun w' q => ?_⟩) ?_
              rotate_left
              · go_simp <;> with_reducible rfl
              try simp only [Act.put, List.setIfInBounds_toArray, List.set_cons_zero, List.set_cons_succ]
              refine rgx_1 12 (by kernel_rfl) ?_
              refine ⟨_, rfl, by rfl, fun K hK => ?_⟩
              obtain ⟨q4, z4, l4⟩ := HG.out
              go_simp
              have hB := HG.out.set (k := 2) (v := (.slice A2 (l0 + n) c2)) (cs' := #[.int .i64 0, .int .i64 L, .slice A2 (l0 + n) c2, .int .i64 N, .int .i64 ((cnt : Int) + 1)]) (by simp) rfl
              have hg1 := one_set HGR.out 2 (.slice A2 (l0 + n) c2)
              have hm : Mem (fun b => b = g ∨ ys ≤ b) x3 (x3.setCell ⟨g, 2, none⟩ (.slice A2 (l0 + n) c2)) := (Mem.refl _ _).of_set (.inl rfl)
              have hOwn := ownsRow_setCell_below HOW.out (show (⟨g, 2, none⟩ : Addr).block < g + 1 from Nat.lt_succ_self _) (.slice A2 (l0 + n) c2)
              try have HBo := Lib.hid (HBo.out.grown (one_set (one_refl x3 g) 2 (.slice A2 (l0 + n) c2)) hbog)
              obtain ⟨x4, hW⟩ : ∃ W, x3.setCell ⟨g, 2, none⟩ (.slice A2 (l0 + n) c2) = W := ⟨_, rfl⟩
              rw [hW] at hB hg1 hm ⊢
              try rw [hW] at HBo
              rw [hW] at hOwn
              have HOW := Lib.hid hOwn
              have HG := Lib.hid hB
              have HGR := Lib.hid hg1
              refine hK (fun b => b = g ∨ ys ≤ b) _ _ (fun b h => .inl h) hm ?_
              clear q4 z4 l4 hm hW hB hg1
              clear hK K
              try simp only [Act.put, List.setIfInBounds_toArray, List.set_cons_zero, List.set_cons_succ]
              refine rgx_d (by kernel_rfl) ?_
              go_wp2_with fail
              go_meet
              case rel => exact ⟨_, HG.out, HBo.out, HOW.out, fun b e => Nat.le_trans hwys (HNW2.out b e), HGR.out⟩
            case rest =>
              obtain ⟨v2, hG4, hB4, hO4, hN4, hR4⟩ := hcut
              obtain ⟨q4, z4, l4⟩ := hG4
              obtain ⟨q5, z5, l5⟩ := hB4
              have HO4 := Lib.hid hO4
              have HN4 := Lib.hid hN4
              have HR4 := Lib.hid hR4
              have HG4 := Lib.hid (show Box wc g _ from ⟨q4, z4, l4⟩)
              clear hO4 hN4 hR4
              cases M
              · have hfin := FINC.out _ 2 v2 (one_set HR4.out 0 (.int .i64 2)) (HG4.out.set (k := 0) (v := .int .i64 2) (by simp) rfl) (ownsRow_setCell_below HO4.out (show (⟨g, 0, none⟩ : Addr).block < g + 1 from Nat.lt_succ_self _) _) HN4.out
                have HF := Lib.hid hfin
                clear hfin
                go_wp2
                go_ret
                exact ⟨rfl, by rw [HTC.out]; exact HF.out⟩
              · by_cases h32 : cnt + 1 = 32
                · have hfin := FIN0.out _ 4 0 N ((cnt : Int) + 1) T (one_set (one_set (one_set HR4.out 0 (.int .i64 4)) 1 (.int .i64 0)) 2 (.slice none 0 0)) (((HG4.out.set (k := 0) (v := .int .i64 4) (cs' := #[.int .i64 4, .int .i64 L, v2, .int .i64 N, .int .i64 ((cnt : Int) + 1)]) (by simp) rfl).set (k := 1) (v := .int .i64 0) (cs' := #[.int .i64 4, .int .i64 0, v2, .int .i64 N, .int .i64 ((cnt : Int) + 1)]) (by simp) rfl).set (k := 2) (v := .slice none 0 0) (by simp) rfl) (by rw [HTC.out]; simp [h32]) (by decide) (by decide)
                  have HF := Lib.hid hfin
                  have d1 : ((cnt : Int) + 1 == 32) = true := by simp; omega
                  clear hfin h32
                  go_wp2
                  go_ret
                  exact ⟨rfl, HF.out⟩
                · have hfin := FINC.out _ 0 v2 HR4.out HG4.out HO4.out HN4.out
                  have HF := Lib.hid hfin
                  have hs : (if true = false then (2 : Int) else if cnt + 1 = 32 then 4 else 0) = 0 := by simp [h32]
                  have HS4 := Lib.hid hs
                  have d1 : ((cnt : Int) + 1 == 32) = false := by simp; omega
                  clear hfin h32 hs
                  go_wp2
                  go_ret
                  exact ⟨rfl, by rw [HTC.out, HS4.out]; exact HF.out⟩
        · have HTC := Lib.hid (HTB2.out.trans (if_pos rfl))
          have hfin := FIN0.out _ 4 0 ask ((cnt : Int) + 1) T (one_set (one_set (one_set HGR.out 0 (.int .i64 4)) 1 (.int .i64 0)) 2 (.slice none 0 0)) (((HG.out.set (k := 0) (v := .int .i64 4) (cs' := #[.int .i64 4, .int .i64 lv, .slice A0 l0 c0, .int .i64 ask, .int .i64 ((cnt : Int) + 1)]) (by simp) rfl).set (k := 1) (v := .int .i64 0) (cs' := #[.int .i64 4, .int .i64 0, .slice A0 l0 c0, .int .i64 ask, .int .i64 ((cnt : Int) + 1)]) (by simp) rfl).set (k := 2) (v := .slice none 0 0) (by simp) rfl) (by rw [HTC.out]) (by decide) (by decide)
          have HF := Lib.hid hfin
          obtain ⟨q4, z4, l4⟩ := HG.out
          clear hfin
          go_wp2
          go_ret
          exact ⟨rfl, HF.out⟩
    · have hfin := FIN.out _ 5 lv ask ((cnt : Int) + 1) T (one_set HGR.out 0 (.int .i64 5)) (HG.out.set (k := 0) (v := .int .i64 5) (by simp) rfl) (by rw [HTA.out rfl]) (by decide) (by decide)
      have HF := Lib.hid hfin
      obtain ⟨q4, z4, l4⟩ := HG.out
      clear hfin
      go_wp2
      go_ret
      exact ⟨rfl, HF.out⟩
end Go.Proofs.Ytpbmolijoadonaa

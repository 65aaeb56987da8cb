/- Layer 22: the law IdentSteps. -/
import Derived.Test.YtpbmolijoadonaaIdE
import Derived.Test.YtpbmolijoadonaaIdT
set_option linter.unusedVariables false
set_option linter.unusedSimpArgs false
namespace Go.Proofs.Ytpbmolijoadonaa
open Go.RowKit

/-- An outcome is loaded as one value. -/
def LdO (a : Addr) (V : Value) (w : World) : Prop := (Instr.loadAt 44 (.pointer (some a))).run Try.prog w = .ok V w
theorem ldo_run {a : Addr} {V : Value} {w : World} {o : Oper} {ev : Operand → Value} {p : Operand} (h : LdO a V w) (ho : o.op = .load 44 p) (hp : ev p = .pointer (some a)) : (execOp ev o).run Try.prog w = .ok (.value V) w := by
  unfold LdO at h
  unfold execOp
  simp only [ho, hp, Sem.run_bind, h, Result.andThen_ok, Sem.run_pure]
set_option maxRecDepth 100000 in
theorem ldo_of {w W : World} {A : Option Addr} {l : List Oc} (hr : Rd w w.heap.size 9 A l.length (ocCells l)) (k : Nat) (hk : k < l.length) : ∃ b off, A = some ⟨b, off, none⟩ ∧ b < w.heap.size ∧ ∀ W, Below w.heap.size w W → LdO ⟨b, off + k * 9, none⟩ (.agg (ocArr l[k])) W := by
  obtain ⟨b, off, e, hb, _⟩ := oc_cells hr k hk
  refine ⟨b, off, e, hb, fun W hW => ?_⟩
  obtain ⟨b', off', e', _, c0, c1, c2, c3, c4, c5, c6, c7, c8⟩ := oc_cells (hr.below hW (Nat.le_refl _)) k hk
  rw [e] at e'
  injection e' with e'
  injection e' with e1 e2
  subst e1 e2
  obtain ⟨o, ho⟩ : ∃ o, l[k] = o := ⟨_, rfl⟩
  rw [ho] at c0 c1 c2 c3 c4 c5 c6 c7 c8 ⊢
  clear ho
  unfold LdO
  go_simp <;> with_reducible rfl
theorem Oc.vals {w W : World} {g : Nat} {F : Nat → Prop} {o : Oc} (h : o.ok w w.heap.size) (hb : Below w.heap.size w W) (hg : w.heap.size ≤ g) (hF : ∀ b, F b → w.heap.size ≤ b) : Vals W g none F o.os := fun x hx => by
  obtain ⟨k1, _⟩ := h.2.2.2.2.2.1 x hx
  refine ⟨(k1.below hb (Nat.le_refl _)).more hb.size, fun hn b off e => ?_⟩
  obtain ⟨b2, off2, e2, hb2, _⟩ := k1.2 hn
  rw [e] at e2
  injection e2 with e2
  injection e2 with e3 _
  subst e3
  exact ⟨by omega, (fun e4 => by cases e4), fun hf => by have := hF b hf; omega⟩
theorem e_shut {k k' : Nat} {S : Ist} (h : EInv k S) (h0 : S.st ≠ 0) : EInv k' S := by
  obtain ⟨h1, h2⟩ := h
  exact ⟨h1, h2.imp (fun h => absurd h.1 h0) id⟩
/-- Both identifications are in the same state. -/
def Twin (w0 w : World) (g h : Nat) (k : Nat) (S : Ist) : Prop := ∃ r1 r2, EInv k S ∧ IdAt w g (fun b => b = h) r1 S ∧ IdAt w h (fun b => b = g ∨ some b = r1) r2 S ∧ Below w0.heap.size w0 w
theorem Twin.below {w0 w w' : World} {g h k : Nat} {S : Ist} (t : Twin w0 w g h k S) (hb : Below w.heap.size w w') : Twin w0 w' g h k S := by
  obtain ⟨r1, r2, h1, h2, h3, h4⟩ := t
  exact ⟨r1, r2, h1, h2.below hb, h3.below hb, ext_trans h4 hb⟩
/-- Behind the program's Feed. -/
def Half (w0 w : World) (g h : Nat) (k : Nat) (S S' : Ist) : Prop := ∃ r1 r2, EInv k S ∧ IdAt w g (fun b => b = h) r1 S' ∧ IdAt w h (fun b => b = g ∨ some b = r1) r2 S ∧ Below w0.heap.size w0 w
theorem half_of {w0 w w' : World} {g h k : Nat} {S S' : Ist} {r1 r2 r1' : Option Nat} (e : EInv k S) (a : IdAt w g (fun b => b = h) r1 S) (b : IdAt w h (fun b => b = g ∨ some b = r1) r2 S) (c : Below w0.heap.size w0 w) (a' : IdAt w' g (fun b => b = h) r1' S') (hr : r1' = r1 ∨ ∃ b, r1' = some b ∧ w.heap.size ≤ b) (hc : Chg w w' g r1) (hg : w0.heap.size ≤ g) (hgh : g ≠ h) : Half w0 w' g h k S S' := by
  refine ⟨r1', r2, e, a', b.other (fun hf => ?_) hc.2.2.2.1 (fun i hi hn => hc.2.2.2.2 i hi (fun e => hn (.inl e)) (fun e => hn (.inr e))) (fun i hi => ?_), fed_below (S' := S) c a c.size hg hc⟩
  · rcases hf with hf | hf
    · exact hgh hf.symm
    · obtain ⟨_, _, _, _, _, h0, _, h2, h2b, _⟩ := a
      exact h2b h hf.symm rfl
  · rcases hi with hi | hi
    · exact .inl (.inl hi)
    · rcases hr with rfl | ⟨b, rfl, hb⟩
      · exact .inl (.inr hi)
      · injection hi with hi; exact .inr (by omega)
/-- Behind the reference's Feed. -/
theorem twin_of {w0 w w' : World} {g h k : Nat} {S' : Ist} {r1 r2' : Option Nat} (e : EInv k S') (a : IdAt w g (fun b => b = h) r1 S') (c : Below w0.heap.size w0 w) (b' : IdAt w' h (fun b => b = g ∨ some b = r1) r2' S') (hg : w.grownBy w' (some h)) (hh : w0.heap.size ≤ h) (hgh : g ≠ h) : Twin w0 w' g h k S' :=
  ⟨r1, r2', e, a.other hgh hg.size (fun i hi hn => hg.block i hi (by intro e; injection e with e; exact hn e)) (fun i hi => .inl hi), b', c.grown hg c.size (fun i hi => by injection hi with hi; omega)⟩
set_option maxRecDepth 100000 in
set_option maxHeartbeats 16000000 in
theorem lawSteps_any (l : List Oc) (A : Option Addr) (c : Nat) (w : World) (hr : Rd w w.heap.size 9 A l.length (ocCells l)) (hm : l.length ≤ maxLen) (hok : ∀ o ∈ l, o.ok w w.heap.size) :
    Calls Try.prog 3 #[.slice A l.length c] w fun e w' => e = .returned (.bool true) ∧ Below w.heap.size w w' := by
  obtain ⟨b, hb⟩ : ∃ b, outSmall l 40 = b := ⟨_, rfl⟩
  have HOUT := Lib.hid (outcomes_any l A c w.heap.size 40 w hr hm (by decide) hok b hb)
  obtain ⟨n, hn⟩ : ∃ n, l.length = n := ⟨_, rfl⟩
  have HR := Lib.hid hr
  have HOK := Lib.hid hok
  have HNL := Lib.hid hn
  rw [hn] at HOUT ⊢
  have hm2 : n ≤ 9223372036854775807 := by unfold maxLen at hm; omega
  cases b
  · clear hr hok hb hn hm
    go_enter Try.func3, Try.ntmps3
    go_wp2_with fail
    refine HOUT.out.mono ?_
    rintro e w1 ⟨rfl, hb1⟩
    go_wp2_with fail
    refine (awake_any _).mono ?_
    rintro e w2 ⟨rfl, hb2⟩
    go_wp2
    go_ret
    exact ⟨rfl, ext_trans hb1 hb2⟩
  · have hsm : (∀ o ∈ l, ocSmall o = true) ∧ l.length ≤ 40 := by
      simp only [outSmall, Bool.and_eq_true, List.all_eq_true, decide_eq_true_eq] at hb
      exact hb
    have hn40 : n ≤ 40 := by rw [← hn]; exact hsm.2
    have HSM := Lib.hid hsm.1
    clear hr hok hb hn hm hsm hm2
    go_enter Try.func3, Try.ntmps3
    go_wp2_with fail
    refine HOUT.out.mono ?_
    rintro e w1 ⟨rfl, hb1⟩
    go_wp2_with fail
    refine (new_any _).mono ?_
    rintro e w2 ⟨g, rfl, hg, hI, hb2⟩
    have hbw2 := ext_trans hb1 hb2
    have hgw : w.heap.size ≤ g := by have := hb1.size; omega
    have hg2 : g < w2.heap.size := (hI (fun _ => False)).box_lt
    have hb3 := (Below.refl w2.heap.size w2).alloc (Nat.le_refl _) (.cells #[.int .i64 0, .int .i64 0, .slice none 0 0, .int .i64 0, .int .i64 0] 30)
    have HT0 := Lib.hid (show Twin w (w2.alloc (.cells #[.int .i64 0, .int .i64 0, .slice none 0 0, .int .i64 0, .int .i64 0] 30)) g w2.heap.size 0 S0 from ⟨none, none, e_zero, (hI _).below hb3, id_new _ _ _ Box.alloc_, ext_trans hbw2 hb3⟩)
    clear hI hb1 hb2 hg HOUT hb3 hbw2
    go_upto_region 6 with fail
    obtain ⟨h, hh⟩ : ∃ h, w2.heap.size = h := ⟨_, rfl⟩
    obtain ⟨W3, hW3⟩ : ∃ W, w2.alloc (.cells #[.int .i64 0, .int .i64 0, .slice none 0 0, .int .i64 0, .int .i64 0] 30) = W := ⟨_, rfl⟩
    rw [hW3, hh] at HT0
    rw [hW3, hh]
    have hgh : g ≠ h := by omega
    have hhw : w.heap.size ≤ h := by omega
    clear hW3 hh hg2
    go_wp2_with fail
    go_loopw [5, 6, 7, 8, 9, 10, 11, 12, 13, 14, 15] (fun kk _ _ _ _ _ _ _ _ _ _ wr => ∃ (k : Nat) (S : Ist), kk = .int .i64 k ∧ k ≤ n + 1 ∧ Twin w wr g h (min k n) S) (fun kk _ _ _ _ _ _ _ _ _ _ _ => n + 1 - (intOf kk).toNat)
    case atStart => exact ⟨0, S0, rfl, by omega, by rw [Nat.min_eq_left (by omega)]; exact HT0.out⟩
    case round =>
      obtain ⟨k, S, rfl, hk, hT⟩ := hrel
      have HT := Lib.hid hT
      clear hT HT0
      by_cases hlt : k ≤ n
      · have HT := Lib.hid (show Twin w wr g h k S by have := HT.out; rwa [Nat.min_eq_left hlt] at this)
        obtain ⟨q0, hq0⟩ : ∃ q : Int × Int × Int × Bool, nextV S = .tuple #[.agg #[.int .i64 q.1, .int .i64 0, .int .i64 0, .int .i64 q.2.1, .int .i64 q.2.2.1], .bool q.2.2.2] := by
          unfold nextV
          by_cases h0 : S.st = 0
          · rw [if_pos h0]; exact ⟨(43, 3, S.ask, true), rfl⟩
          · rw [if_neg h0]; exact ⟨(0, 0, 0, false), rfl⟩
        obtain ⟨qa, qb, qc, qd⟩ := q0
        dsimp only at hq0
        have HN1 := Lib.hid (fun (W : World) (t : Twin w W g h k S) => (show Calls Try.prog 10 #[iptr g] W fun e w' => e = .returned (.tuple #[.agg #[.int .i64 qa, .int .i64 0, .int .i64 0, .int .i64 qb, .int .i64 qc], .bool qd]) ∧ Below W.heap.size W w' from by
          obtain ⟨r1, r2, t1, t2, t3, t4⟩ := t
          rw [← hq0]; exact next_any S g _ r1 W t2))
        have HN2 := Lib.hid (fun (W : World) (t : Twin w W g h k S) => (show Calls Try.prog 11 #[iptr h] W fun e w' => e = .returned (.tuple #[.agg #[.int .i64 qa, .int .i64 0, .int .i64 0, .int .i64 qb, .int .i64 qc], .bool qd]) ∧ Below W.heap.size W w' from by
          obtain ⟨r1, r2, t1, t2, t3, t4⟩ := t
          rw [← hq0]; exact rnext_any S h _ r2 W t3))
        have HR1 := Lib.hid (fun (W : World) (t : Twin w W g h k S) => (show Calls Try.prog 12 #[iptr g] W (ResOk S W) from by
          obtain ⟨r1, r2, t1, t2, t3, t4⟩ := t
          exact result_any S g _ r1 W t2 (fun _ => ⟨by have := t1.1.2.2.1; have := t1.1.2.2.2; omega, t1.1.2.1⟩)))
        have HR2 := Lib.hid (fun (W : World) (t : Twin w W g h k S) => (show Calls Try.prog 13 #[iptr h] W (ResOk S W) from by
          obtain ⟨r1, r2, t1, t2, t3, t4⟩ := t
          exact rresult_any S h _ r2 W t3))
        have hres5 : (resO S).length ≤ 2000 := by
          obtain ⟨r1, r2, t1, _⟩ := HT.out
          unfold resO
          split
          · have := t1.1.2.2.1; have := t1.1.2.2.2; omega
          · simp
        have HRS5 := Lib.hid hres5
        clear hq0 hres5
        go_wp2_with fail
        refine (HN1.out _ HT.out).mono ?_
        rintro e w4 ⟨rfl, hb4⟩
        have hb5 := (Below.refl w4.heap.size w4).alloc (Nat.le_refl _) (.cells #[.int .i64 qa, .int .i64 0, .int .i64 0, .int .i64 qb, .int .i64 qc] 32)
        have HT5 := Lib.hid ((HT.out.below hb4).below hb5)
        have HB6 := Lib.hid (Box.alloc_ (w := w4) (cs := #[.int .i64 qa, .int .i64 0, .int .i64 0, .int .i64 qb, .int .i64 qc]) (e := 32))
        clear hb4 hb5 HT HN1
        go_upto_region 10 with fail
        obtain ⟨b6, hb6⟩ : ∃ b, w4.heap.size = b := ⟨_, rfl⟩
        obtain ⟨W5, hW5⟩ : ∃ W, w4.alloc (.cells #[.int .i64 qa, .int .i64 0, .int .i64 0, .int .i64 qb, .int .i64 qc] 32) = W := ⟨_, rfl⟩
        rw [hW5] at HT5 HB6 ⊢
        rw [hb6] at HB6 ⊢
        clear hW5 hb6
        go_wp2_with fail
        refine (HN2.out _ HT5.out).mono ?_
        rintro e w6 ⟨rfl, hb4⟩
        have hb5 := (Below.refl w6.heap.size w6).alloc (Nat.le_refl _) (.cells #[.int .i64 qa, .int .i64 0, .int .i64 0, .int .i64 qb, .int .i64 qc] 32)
        have HT7 := Lib.hid ((HT5.out.below hb4).below hb5)
        have HB6 := Lib.hid ((HB6.out.below hb4).below hb5)
        have HB8 := Lib.hid (Box.alloc_ (w := w6) (cs := #[.int .i64 qa, .int .i64 0, .int .i64 0, .int .i64 qb, .int .i64 qc]) (e := 32))
        clear hb4 hb5 HT5 HN2
        go_upto_region 11 with fail
        obtain ⟨b8, hb8⟩ : ∃ b, w6.heap.size = b := ⟨_, rfl⟩
        obtain ⟨W7, hW7⟩ : ∃ W, w6.alloc (.cells #[.int .i64 qa, .int .i64 0, .int .i64 0, .int .i64 qb, .int .i64 qc] 32) = W := ⟨_, rfl⟩
        rw [hW7] at HT7 HB6 HB8 ⊢
        rw [hb8] at HB8 ⊢
        clear hW7 hb8
        go_wp2_with fail
        refine (HR1.out _ HT7.out).mono ?_
        rintro e w8 ⟨A8, n8, c8, l8, rfl, ho8, hl8, hc8, hb8⟩
        have HT8 := Lib.hid (HT7.out.below hb8)
        have HB6 := Lib.hid (HB6.out.below hb8)
        have HB8 := Lib.hid (HB8.out.below hb8)
        have HO8 := Lib.hid ho8
        have HL8 := Lib.hid hl8
        have HC8 := Lib.hid hc8
        clear hb8 ho8 hl8 hc8 HT7 HR1
        go_wp2_with fail
        refine (HR2.out _ HT8.out).mono ?_
        rintro e w9 ⟨A9, n9, c9, l9, rfl, ho9, hl9, hc9, hb9⟩
        have HT9 := Lib.hid (HT8.out.below hb9)
        have HB6 := Lib.hid (HB6.out.below hb9)
        have HB8 := Lib.hid (HB8.out.below hb9)
        have hnn : n8 = n9 := by
          rw [← HL8.out, ← hl9]
          have h1 := congrArg List.length HC8.out
          have h2 := congrArg List.length hc9
          simp only [con, List.length_map] at h1 h2
          omega
        subst hnn
        have hn5 : n8 ≤ 100000 := by
          have h1 := congrArg List.length HC8.out
          simp only [con, List.length_map] at h1
          have := HRS5.out
          have := HL8.out
          omega
        have HSM9 := Lib.hid (fun (W : World) (hb : Below w9.heap.size w9 W) => same_any l8 l9 A8 A9 n8 c8 c9 W ((HO8.out.below hb9).below hb) (ho9.below hb) HL8.out hn5 (HC8.out.trans hc9.symm))
        obtain ⟨rl, hrl⟩ : ∃ r, resL S = r := ⟨_, rfl⟩
        obtain ⟨st, hst⟩ : ∃ r, S.st = r := ⟨_, rfl⟩
        rw [hrl, hst]
        obtain ⟨q6, z6, l6⟩ := HB6.out
        obtain ⟨q8, z8, l8'⟩ := HB8.out
        clear hb9 ho9 hl9 hc9 HT8 HR2 hrl hst HO8 HC8
        go_wp2_with fail
        refine (HSM9.out _ (Below.refl _ _)).mono ?_
        rintro e w10 ⟨rfl, hb10⟩
        have HT10 := Lib.hid (HT9.out.below hb10)
        clear hb10 HT9 HSM9 q6 z6 l6 q8 z8 l8' HB6 HB8
        go_upto_region 15 with fail
        by_cases hkn : k < n
        · have hkl : k < l.length := by rw [HNL.out]; exact hkn
          obtain ⟨bl, off, hA, hbl, hld⟩ := ldo_of (W := w) HR.out k hkl
          subst hA
          have hoo := HOK.out l[k] (List.getElem_mem hkl)
          have hos := HSM.out l[k] (List.getElem_mem hkl)
          obtain ⟨o, ho⟩ : ∃ o, l[k] = o := ⟨_, rfl⟩
          rw [ho] at hld hoo hos
          obtain ⟨VO, hVO⟩ : ∃ V, Value.agg (ocArr o) = V := ⟨_, rfl⟩
          have hall : ∃ (z : Int) (P : World → Prop) (S' : Ist), (∀ W, Twin w W g h k S → Calls Try.prog 15 #[iptr g, VO] W fun e w' => e = .returned (.int .i64 z) ∧ P w') ∧ (∀ W, P W → Calls Try.prog 16 #[iptr h, VO] W fun e w' => e = .returned (.int .i64 z) ∧ Twin w w' g h (k + 1) S') ∧ (∀ W, P W → Below w.heap.size w W) := by
            rw [← hVO]
            by_cases h0 : S.st = 0
            · refine ⟨0, fun W => Half w W g h k S (stepI S o), stepI S o, fun W t => ?_, fun W t => ?_, fun W t => ?_⟩
              · obtain ⟨r1, r2, t1, t2, t3, t4⟩ := t
                have hfd := Oc.fed (g := g) (row := r1) hoo hos t4 hgw (fun c hc => (t2.row_lt c hc).1)
                obtain ⟨e1, e2⟩ := t1
                rcases e2 with e2 | e2 | e2 | e2
                · refine (feed_any S g _ r1 o W t2 h0 e2.2.2.1 (by omega) e1.2.2.1 hfd.1 (fun b hb => by rw [hb]; exact t3.box_lt)).mono ?_
                  rintro e w' ⟨rfl, r1', hI, hr, hc⟩
                  exact ⟨rfl, half_of ⟨e1, .inl e2⟩ t2 t3 t4 hI hr hc hgw hgh⟩
                · omega
                · omega
                · omega
              · obtain ⟨r1, r2, t1, t2, t3, t4⟩ := t
                have hfd := Oc.fed (g := h) (row := r2) hoo hos t4 hhw (fun c hc => (t3.row_lt c hc).1)
                have hvl := Oc.vals (g := h) (F := fun b => b = g ∨ some b = r1) hoo t4 hhw (fun b hb => by
                  rcases hb with rfl | hb
                  · exact hgw
                  · have := (t2.row_lt b hb.symm).1; omega)
                have hes := e_step t1 h0 hfd.1.2.2.1 hfd.2.1 hfd.2.2
                obtain ⟨e1, e2⟩ := t1
                rcases e2 with e2 | e2 | e2 | e2
                · refine (rfeed_any S h _ r2 o W t3 h0 e2.2.2.1 (by omega) e1.2.2.1 hfd.1 hvl (fun b hb => by
                    rcases hb with rfl | hb
                    · exact t2.box_lt
                    · exact (t2.row_lt b hb.symm).2)).mono ?_
                  rintro e w' ⟨rfl, r2', hI, hg2⟩
                  exact ⟨rfl, twin_of hes t2 t4 hI hg2 hhw hgh⟩
                · omega
                · omega
                · omega
              · obtain ⟨r1, r2, _, _, _, t4⟩ := t; exact t4
            · refine ⟨12, fun W => Twin w W g h k S, S, fun W t => ?_, fun W t => ?_, fun W t => ?_⟩
              · have t' := t
                obtain ⟨r1, r2, t1, t2, t3, t4⟩ := t
                refine (feed_closed S g _ r1 o W t2 h0).mono ?_
                rintro e w' ⟨rfl, hb⟩
                exact ⟨rfl, t'.below hb⟩
              · have t' := t
                obtain ⟨r1, r2, t1, t2, t3, t4⟩ := t
                refine (rclosed_any S h _ r2 o W t3 h0).mono ?_
                rintro e w' ⟨rfl, hb⟩
                obtain ⟨r1, r2, t1, t2, t3, t4⟩ := t'.below hb
                exact ⟨rfl, r1, r2, e_shut t1 h0, t2, t3, t4⟩
              · obtain ⟨r1, r2, _, _, _, t4⟩ := t; exact t4
          obtain ⟨z, P, S', h1, h2, h3⟩ := hall
          have HF1 := Lib.hid h1
          have HF2 := Lib.hid h2
          have HP := Lib.hid h3
          rw [hVO] at hld
          have HLD := Lib.hid hld
          have hbw10 : Below w.heap.size w w10 := by obtain ⟨_, _, _, _, _, t4⟩ := HT10.out; exact t4
          have dz : (z != z) = false := by simp
          have d0 : decide (k < n) = true := by simpa using hkn
          have d1 : decide ((k : Int) < (n : Int)) = true := by simp; omega
          have HT11 := Lib.hid (HT10.out.below (below_drew (Below.refl w10.heap.size w10)))
          have hS : LdO ⟨bl, off + k * 9, none⟩ VO w10.drew ∧ True ∧ True := ⟨HLD.out _ (below_drew hbw10), trivial, trivial⟩
          clear hoo hos ho hVO h1 h2 h3 hld
          refine rgs_start (fun w' => LdO ⟨bl, off + k * 9, none⟩ VO w' ∧ True ∧ True) (by kernel_rfl) ?_
          refine rgs_t (v := ?_) (some 77) 0 (by kernel_rfl) rfl rfl (by assumption) (.inl ⟨by rfl, fun w' hw => ?_⟩) ?_
          rotate_left
          · obtain ⟨q1, q2, q3⟩ := hw; go_simp <;> with_reducible rfl
          try simp only [Act.put, List.setIfInBounds_toArray, List.set_cons_zero, List.set_cons_succ]
          refine rgs_t (v := ?_) (some 78) 1 (by kernel_rfl) rfl rfl (by assumption) (.inl ⟨by rfl, fun w' hw => ?_⟩) ?_
          rotate_left
          · obtain ⟨q1, q2, q3⟩ := hw; go_simp <;> with_reducible rfl
          try simp only [Act.put, List.setIfInBounds_toArray, List.set_cons_zero, List.set_cons_succ]
          refine rgs_t (v := ?_) (some 79) 2 (by kernel_rfl) rfl rfl (by assumption) (.inl ⟨by rfl, fun w' hw => ?_⟩) ?_
          rotate_left
          · obtain ⟨q1, q2, q3⟩ := hw; go_simp <;> with_reducible rfl
          try simp only [Act.put, List.setIfInBounds_toArray, List.set_cons_zero, List.set_cons_succ]
          refine rgs_t (v := ?_) (some 80) 3 (by kernel_rfl) rfl rfl (by assumption) (.inl ⟨by rfl, fun w' hw => ?_⟩) ?_
          rotate_left
          · obtain ⟨q1, q2, q3⟩ := hw; go_simp <;> with_reducible rfl
          try simp only [Act.put, List.setIfInBounds_toArray, List.set_cons_zero, List.set_cons_succ]
          refine rgs_t (v := ?_) (some 81) 4 (by kernel_rfl) rfl rfl (by assumption) (.inl ⟨by rfl, fun w' hw => ?_⟩) ?_
          rotate_left
          · obtain ⟨q1, q2, q3⟩ := hw; go_simp <;> with_reducible rfl
          try simp only [Act.put, List.setIfInBounds_toArray, List.set_cons_zero, List.set_cons_succ]
          refine rgs_t (v := ?_) (some 82) 5 (by kernel_rfl) rfl rfl (by assumption) (.inl ⟨by rfl, fun w' hw => ?_⟩) ?_
          rotate_left
          · obtain ⟨q1, q2, q3⟩ := hw; go_simp <;> with_reducible rfl
          try simp only [Act.put, List.setIfInBounds_toArray, List.set_cons_zero, List.set_cons_succ]
          refine rgs_t (v := ?_) (some 83) 6 (by kernel_rfl) rfl rfl (by assumption) (.inl ⟨by rfl, fun w' hw => ?_⟩) ?_
          rotate_left
          · obtain ⟨q1, q2, q3⟩ := hw; go_simp <;> with_reducible rfl
          try simp only [Act.put, List.setIfInBounds_toArray, List.set_cons_zero, List.set_cons_succ]
          refine rgs_t (v := ?_) (some 84) 7 (by kernel_rfl) rfl rfl (by assumption) (.inl ⟨by rfl, fun w' hw => ?_⟩) ?_
          rotate_left
          · obtain ⟨q1, q2, q3⟩ := hw; go_simp <;> with_reducible rfl
          try simp only [Act.put, List.setIfInBounds_toArray, List.set_cons_zero, List.set_cons_succ]
          refine rgs_t (v := ?_) (some 85) 8 (by kernel_rfl) rfl rfl (by assumption) (.inl ⟨by rfl, fun w' hw => ?_⟩) ?_
          rotate_left
          · obtain ⟨q1, q2, q3⟩ := hw; go_simp <;> with_reducible rfl
          try simp only [Act.put, List.setIfInBounds_toArray, List.set_cons_zero, List.set_cons_succ]
          refine rgs_t (v := VO) (some 86) 9 (by kernel_rfl) rfl rfl (by assumption) (.inl ⟨by rfl, fun w' hw => ldo_run hw.1 rfl rfl⟩) ?_
          try simp only [Act.put, List.setIfInBounds_toArray, List.set_cons_zero, List.set_cons_succ]
          refine rgs_t (v := ?_) (some 88) 11 (by kernel_rfl) rfl rfl (by assumption) (.inl ⟨by rfl, fun w' hw => ?_⟩) ?_
          rotate_left
          · obtain ⟨q1, q2, q3⟩ := hw; go_simp <;> with_reducible rfl
          try simp only [Act.put, List.setIfInBounds_toArray, List.set_cons_zero, List.set_cons_succ]
          refine rgs_t (v := ?_) (some 89) 12 (by kernel_rfl) rfl rfl (by assumption) (.inl ⟨by rfl, fun w' hw => ?_⟩) ?_
          rotate_left
          · obtain ⟨q1, q2, q3⟩ := hw; go_simp <;> with_reducible rfl
          try simp only [Act.put, List.setIfInBounds_toArray, List.set_cons_zero, List.set_cons_succ]
          refine rgs_t (v := ?_) (some 90) 13 (by kernel_rfl) rfl rfl (by assumption) (.inl ⟨by rfl, fun w' hw => ?_⟩) ?_
          rotate_left
          · obtain ⟨q1, q2, q3⟩ := hw; go_simp <;> with_reducible rfl
          try simp only [Act.put, List.setIfInBounds_toArray, List.set_cons_zero, List.set_cons_succ]
          refine rgs_t (v := ?_) (some 91) 14 (by kernel_rfl) rfl rfl (by assumption) (.inl ⟨by rfl, fun w' hw => ?_⟩) ?_
          rotate_left
          · obtain ⟨q1, q2, q3⟩ := hw; go_simp <;> with_reducible rfl
          try simp only [Act.put, List.setIfInBounds_toArray, List.set_cons_zero, List.set_cons_succ]
          refine rgs_t (v := VO) (some 92) 15 (by kernel_rfl) rfl rfl (by assumption) (.inl ⟨by rfl, fun w' hw => ldo_run hw.1 rfl rfl⟩) ?_
          try simp only [Act.put, List.setIfInBounds_toArray, List.set_cons_zero, List.set_cons_succ]
          refine rgs_c 10 (by kernel_rfl) rfl (by rfl) (fun K hK => ?_)
          go_simp
          refine (HF1.out _ HT11.out).mono ?_
          rintro e x1 ⟨rfl, hp1⟩
          have HP1 := Lib.hid hp1
          have hS1 : LdO ⟨bl, off + k * 9, none⟩ VO x1 ∧ True ∧ True := ⟨HLD.out _ (HP.out _ HP1.out), trivial, trivial⟩
          refine hK _ _ hS1 ?_
          clear hK K
          try simp only [Act.put, List.setIfInBounds_toArray, List.set_cons_zero, List.set_cons_succ]
          refine rgs_c 16 (by kernel_rfl) rfl (by rfl) (fun K hK => ?_)
          go_simp
          refine (HF2.out _ HP1.out).mono ?_
          rintro e x2 ⟨rfl, ht2⟩
          have HT12 := Lib.hid ht2
          have hbx : Below w.heap.size w x2 := by obtain ⟨_, _, _, _, _, t4⟩ := HT12.out; exact t4
          have hS2 : LdO ⟨bl, off + k * 9, none⟩ VO x2 ∧ True ∧ True := ⟨HLD.out _ hbx, trivial, trivial⟩
          refine hK _ _ hS2 ?_
          clear hK K
          try simp only [Act.put, List.setIfInBounds_toArray, List.set_cons_zero, List.set_cons_succ]
          refine rgs_t (v := ?_) (some 94) 17 (by kernel_rfl) rfl rfl (by assumption) (.inl ⟨by rfl, fun w' hw => ?_⟩) ?_
          rotate_left
          · obtain ⟨q1, q2, q3⟩ := hw; go_simp <;> with_reducible rfl
          try simp only [Act.put, List.setIfInBounds_toArray, List.set_cons_zero, List.set_cons_succ]
          refine rgs_t (v := ?_) (some 95) 18 (by kernel_rfl) rfl rfl (by assumption) (.inl ⟨by rfl, fun w' hw => ?_⟩) ?_
          rotate_left
          · obtain ⟨q1, q2, q3⟩ := hw; go_simp <;> with_reducible rfl
          try simp only [Act.put, List.setIfInBounds_toArray, List.set_cons_zero, List.set_cons_succ]
          refine rgs_d (by kernel_rfl) ?_
          go_wp2_with fail
          go_roundw
          case rel => exact ⟨k + 1, S', by go_num, by omega, by rw [Nat.min_eq_left (by omega)]; exact HT12.out⟩
          case measure => simp [intOf]; omega
        · obtain rfl : k = n := by omega
          go_quiet (fail)
          go_wp2_with fail
          go_roundw
          case rel => exact ⟨k + 1, S, by go_num, by omega, by rw [show min (k + 1) k = k by omega]; exact HT10.out.below (below_drewN (Below.refl w10.heap.size w10) _)⟩
          case measure => first | (simp [intOf]; done) | (simp [intOf]; omega)
      · go_wp2_with fail
        refine (awake_any _).mono ?_
        rintro e w5 ⟨rfl, hb5⟩
        obtain ⟨r1, r2, _, _, _, hbw⟩ := HT.out
        go_wp2
        go_ret
        exact ⟨rfl, ext_trans hbw hb5⟩
end Go.Proofs.Ytpbmolijoadonaa

/- Layer 24: the law MaxqSteps. -/
import Derived.Test.YtipcnpnfdoainaaMqA
import Derived.Test.YtipcnpnfdoainaaMqRF
import Derived.Test.YtipcnpnfdoainaaOc
import Derived.Deep.RegionHeld3
set_option linter.unusedVariables false
set_option linter.unusedSimpArgs false
namespace Go.Proofs.Ytipcnpnfdoainaa
open Go.RowKit

theorem mfeed_bd {V E lo hi q lo' hi' st' : Int} (hf : mfeed V E lo hi q = (lo', hi', st')) (h0 : 0 ≤ lo) (h1 : lo ≤ 3000) (h2 : 0 ≤ hi) (h3 : hi ≤ 3000) : 0 ≤ lo' ∧ lo' ≤ 3000 ∧ 0 ≤ hi' ∧ hi' ≤ 3000 := by
  obtain ⟨n0, n1⟩ := mqn_bd (lo := lo) (hi := hi) (q := q) rfl h0 h1 h2 h3
  rcases mcases hf with ⟨hv, hn, hh, hs⟩ | ⟨hq, hv, he, hl, hh, hs⟩ | ⟨hq, hv, he, hl, hh, hs⟩ | ⟨hl, hh, hs, hr⟩ <;> omega
theorem Rd.one {w w' : World} {B size n c : Nat} {A : Option Addr} {xs : List Value} (h : Rd w B size A n xs) (hg : w.grownBy w' (some c)) (hc : B ≤ c) (hw : B ≤ w.heap.size) : Rd w' B size A n xs :=
  h.keep fun p hp => World.cell?_of_block (hg.block p.block (by omega) (by intro e; injection e; omega))
theorem Fed.gr {w w' : World} {b : Nat} {t lo hi st q : Int} (h : Fed w b t lo hi st q w') : w.grownBy w' (some b) := h.2
theorem RFed.gr {w w' : World} {b : Nat} {t lo hi st q : Int} (h : RFed w b t lo hi st q w') : w.grownBy w' (some b) := h.2
theorem cells_one {w w' : World} {b c : Nat} (hg : w.grownBy w' (some c)) (hb : b < w.heap.size) (hne : b ≠ c) (o : Nat) : w'.cell? ⟨b, o, none⟩ = w.cell? ⟨b, o, none⟩ :=
  World.cell?_of_block (hg.block b hb (by intro e; injection e with e; exact hne e))
/-- Both searches' boxes at once: what the loop of the law holds. -/
def Both (w wr : World) (s m : Nat) (t : Int) (k : Nat) : Prop := ∃ lo hi st q : Int, 0 ≤ lo ∧ lo ≤ 3000 ∧ 0 ≤ hi ∧ hi ≤ 3000 ∧ 0 ≤ q ∧ q ≤ k ∧ sBox wr s t lo hi st q ∧ rBox wr m t lo hi st q ∧ Below w.heap.size w wr

set_option maxRecDepth 100000 in
set_option maxHeartbeats 2000000 in
theorem lawSteps_small (t : Int) (l : List Oc) (A : Option Addr) (c : Nat) (w : World) (h1 : 1 ≤ t) (h4 : t ≤ 4) (hr : Rd w w.heap.size 9 A l.length (ocCells l)) (hm : l.length ≤ maxLen) (hok : ∀ o ∈ l, o.ok w w.heap.size) (hs : outSmall l 20 = true) :
    Calls Try.prog 3 #[.int .i64 t, .slice A l.length c] w fun e w' => e = .returned (.bool true) ∧ Below w.heap.size w w' := by
  have hlen : l.length ≤ 20 := by unfold outSmall at hs; simp only [Bool.and_eq_true, decide_eq_true_eq] at hs; exact hs.2
  have HO := Lib.hid (outcomes_any l A c w.heap.size 20 w hr hm (by omega) hok true hs)
  have HR := Lib.hid hr
  have HN := Lib.hid (fun w => mqNew_any t w h1 h4)
  have HM := Lib.hid (fun w => rNew_any t w h1 h4)
  have HL := Lib.hid (mlim_pos t h1 h4)
  have h1' : decide (t < 1) = false := by simp; omega
  have h4' : decide (4 < t) = false := by simp; omega
  clear hr hm hok hs
  go_enter Try.func3, Try.ntmps3
  go_wp2_with fail
  refine HO.out.mono ?_
  rintro e w1 ⟨rfl, hb1⟩
  go_wp2_with fail
  refine (HN.out _).mono ?_
  rintro e w2 ⟨rfl, hB2, hb2⟩
  have hs2 : w1.heap.size < w2.heap.size := hB2.2.2
  go_wp2_with fail
  refine (HM.out _).mono ?_
  rintro e w3 ⟨rfl, hM3, hb3⟩
  have hs3 : w2.heap.size < w3.heap.size := hM3.2.2
  have hB3 := hB2.below hb3
  have hb1s := hb1.size
  have hbw := ext_trans (ext_trans hb1 hb2) hb3
  obtain ⟨hl1, hl2⟩ := HL.out
  obtain ⟨s, hs⟩ : ∃ s, w1.heap.size = s := ⟨_, rfl⟩
  obtain ⟨m, hm⟩ : ∃ m, w2.heap.size = m := ⟨_, rfl⟩
  rw [hs] at hB3 hs2 hb1s
  rw [hm] at hM3 hs2 hs3
  have hBoth : Both w w3 s m t 0 := ⟨0, mlim t + 1, 0, 0, by omega, by omega, by omega, by omega, by omega, by omega, hB3, hM3, hbw⟩
  rw [hs, hm]
  clear hB2 hb2 hM3 hb3 hB3 hbw hb1 HO HN HM HL hl1 hl2 hs hm
  go_wp2_with fail
  go_loopw [7] (fun i wr => ∃ k : Nat, k ≤ l.length + 1 ∧ i = .int .i64 k ∧ Both w wr s m t k) (fun i _ => l.length + 1 - (intOf i).toNat)
  case atStart => exact ⟨0, by omega, rfl, hBoth⟩
  case round =>
    obtain ⟨k, hk, rfl, lo, hi, st, q, b0, b1, b2, b3, b4, b5, hB, hM, hbw⟩ := hrel
    have hsw := hbw.size
    clear hBoth
    have hls := hB.2.2
    have hlm := hM.2.2
    by_cases hle : k ≤ l.length
    · obtain ⟨r, hr⟩ : ∃ r, mres st lo = r := ⟨_, rfl⟩
      have HB := Lib.hid hB
      have HM := Lib.hid hM
      have HRs := Lib.hid (fun (W : World) (h : sBox W s t lo hi st q) => mqResult_any s t lo hi st q W h r hr)
      have HRm := Lib.hid (fun (W : World) (h : rBox W m t lo hi st q) => rResult_any m t lo hi st q W h r hr)
      have HQ := Lib.hid (fun (W : World) (h : sBox W s t lo hi st q) => mqQueries_any s t lo hi st q W h)
      clear hr
      have hX : ∃ (fq n : Int) (okb : Bool), (∀ W : World, sBox W s t lo hi st q → Calls Try.prog 11 #[.pointer (some ⟨s, 0, none⟩)] W fun e w' => e = .returned (.tuple #[qv fq 0 n 0 0, .bool okb]) ∧ Below W.heap.size W w') ∧
          (∀ W : World, rBox W m t lo hi st q → Calls Try.prog 12 #[.pointer (some ⟨m, 0, none⟩)] W fun e w' => e = .returned (.tuple #[qv fq 0 n 0 0, .bool okb]) ∧ Below W.heap.size W w') := by
        by_cases hst : st = 0
        · subst hst
          exact ⟨t, mqn lo hi q, true, fun W h => mqNext_open s t lo hi q _ W h b0 b1 b2 b3 rfl, fun W h => rNext_open m t lo hi q _ W h b0 b1 b2 b3 rfl⟩
        · exact ⟨0, 0, false, fun W h => mqNext_done s t lo hi st q W h hst, fun W h => rNext_done m t lo hi st q W h hst⟩
      have hF : ∀ o : Oc, ∃ x y z q' er : Int, (0 ≤ x ∧ x ≤ 3000 ∧ 0 ≤ y ∧ y ≤ 3000 ∧ 0 ≤ q' ∧ q' ≤ k + 1) ∧
          (∀ W : World, sBox W s t lo hi st q → Calls Try.prog 16 #[.pointer (some ⟨s, 0, none⟩), .agg #[.int .i64 o.V, .int .i64 o.F, .int .i64 o.E, .slice o.dA o.dn o.dc, .int .i64 o.C, .int .i64 o.L, .bool o.M, .int .i64 o.N, .slice o.oA o.os.length o.oc]] W fun e w' => e = .returned (.int .i64 er) ∧ Fed W s t x y z q' w') ∧
          (∀ W : World, rBox W m t lo hi st q → Calls Try.prog 17 #[.pointer (some ⟨m, 0, none⟩), .agg #[.int .i64 o.V, .int .i64 o.F, .int .i64 o.E, .slice o.dA o.dn o.dc, .int .i64 o.C, .int .i64 o.L, .bool o.M, .int .i64 o.N, .slice o.oA o.os.length o.oc]] W fun e w' => e = .returned (.int .i64 er) ∧ RFed W m t x y z q' w') := by
        intro o
        by_cases hst : st = 0
        · subst hst
          obtain ⟨d0, d1, d2, d3⟩ := mfeed_bd (V := o.V) (E := o.E) (q := q) rfl b0 b1 b2 b3
          exact ⟨_, _, _, q + 1, 0, ⟨d0, d1, d2, d3, by omega, by omega⟩, fun W h => mqFeed_any s t lo hi q _ _ _ o.V o.F o.E o.C o.L o.N o.M o.dA o.oA o.dn o.dc o.os.length o.oc W h b0 b1 b2 b3 b4 (by omega) rfl,
            fun W h => rFeed_any m t lo hi q _ _ _ o.V o.F o.E o.C o.L o.N o.M o.dA o.oA o.dn o.dc o.os.length o.oc W h b0 b1 b2 b3 b4 (by omega) rfl⟩
        · exact ⟨lo, hi, st, q, 12, ⟨b0, b1, b2, b3, b4, by omega⟩, fun W h => mqFeed_closed s t lo hi st q o.V o.F o.E o.C o.L o.N o.M o.dA o.oA o.dn o.dc o.os.length o.oc W h hst,
            fun W h => rFeed_closed m t lo hi st q o.V o.F o.E o.C o.L o.N o.M o.dA o.oA o.dn o.dc o.os.length o.oc W h hst⟩
      have HF := Lib.hid hF
      obtain ⟨fq, n, okb, hXs, hXm⟩ := hX
      have HXs := Lib.hid hXs
      have HXm := Lib.hid hXm
      clear hF hXs hXm hB hM
      go_wp2_with fail
      refine (HXs.out _ HB.out).mono ?_
      rintro e w4 ⟨rfl, hb4⟩
      have HB4 := Lib.hid (HB.out.below hb4)
      have HM4 := Lib.hid (HM.out.below hb4)
      have hs4 := hb4.size
      have hbw4 := ext_trans hbw hb4
      go_wp2_with fail
      refine (HXm.out _ (HM4.out.alloc' _)).mono ?_
      rintro e w5 ⟨rfl, hb5⟩
      have HB5 := Lib.hid ((HB4.out.alloc' _).below hb5)
      have HM5 := Lib.hid ((HM4.out.alloc' _).below hb5)
      have HQ5 := Lib.hid (Box.new hb5)
      have hs5 := hb5.size
      have hbw5 := ext_alloc' hbw4 (by simpa using hb5)
      go_wp2_with fail
      refine (HRs.out _ (HB5.out.alloc' _)).mono ?_
      rintro e w6 ⟨rfl, m6, rfl⟩
      go_wp2_with fail
      refine (HRm.out _ ((HM5.out.alloc' _).drewN _)).mono ?_
      rintro e w6 ⟨rfl, m7, rfl⟩
      obtain ⟨q5, z5, l5⟩ := HQ5.out
      obtain ⟨qm5, zm5, lm5⟩ := HM5.out
      have hs5 : w4.heap.size + 1 ≤ w5.heap.size := by simpa using hs5
      clear HXs HXm HRs HRm hb4 hb5
      by_cases hlt : k < l.length
      · obtain ⟨b', off, rfl, hlb, c0, c1, c2, c3, c4, c5, c6, c7, c8⟩ := oc_cells (HR.out.below hbw5 (Nat.le_refl _)) k hlt
        obtain ⟨x, y, z, q', er, hbd, hFs, hFm⟩ := HF.out l[k]
        have HFs := Lib.hid hFs
        have HFm := Lib.hid hFm
        have HBD := Lib.hid hbd
        clear hFs hFm hbd
        have hsm : s ≠ m := by omega
        have hms : m ≠ s := by omega
        clear HF
        go_wp2_with fail
        go_quiet ((go_at_call 15; first | exact quiet_left (HQ.out _ ((HB5.out.alloc' _).drewN _)) | exact quiet_add_left (HQ.out _ ((HB5.out.alloc' _).drewN _))))
        go_wp2_with fail
        obtain ⟨W0, hW0⟩ : ∃ W0, (((w5.alloc (.cells #[.int .i64 fq, .int .i64 0, .int .i64 n, .int .i64 0, .int .i64 0] 30)).drewN (m6 + m7)).drewN nq) = W0 := ⟨_, rfl⟩
        rw [hW0]
        have HB0 : Hid (sBox W0 s t lo hi st q) := Lib.hid (by rw [← hW0]; exact HB5.out.alloc' _)
        have HM0 : Hid (rBox W0 m t lo hi st q) := Lib.hid (by rw [← hW0]; exact HM5.out.alloc' _)
        have hbw0 : Below w.heap.size w W0 := by rw [← hW0]; exact below_drewN (below_drewN (ext_alloc hbw5 _) _) _
        have HR0 := Lib.hid (HR.out.below hbw0 (Nat.le_refl _))
        have hsz0 : m < W0.heap.size := HM0.out.2.2
        clear c0 c1 c2 c3 c4 c5 c6 c7 c8 hW0 q5 z5 l5 qm5 zm5 lm5 HB5 HM5 HQ5 HB4 HM4 hbw5 hbw4 HQ
        obtain ⟨_, _, e0, hlb, c0, c1, c2, c3, c4, c5, c6, c7, c8⟩ := oc_cells HR0.out k hlt
        obtain ⟨rfl, rfl⟩ : b' = _ ∧ off = _ := by injection e0 with e0; injection e0 with e1 e2; exact ⟨e1, e2⟩
        clear e0
        have hbs : b' < W0.heap.size := by omega
        have hns : b' ≠ s := by omega
        have hnm : b' ≠ m := by omega
        go_region_held3 (fun w' => w'.cell? ⟨b', off + k * 9, none⟩ = some (.int .i64 l[k].V) ∧ w'.cell? ⟨b', off + k * 9 + 1, none⟩ = some (.int .i64 l[k].F) ∧ w'.cell? ⟨b', off + k * 9 + 1 + 1, none⟩ = some (.int .i64 l[k].E) ∧ w'.cell? ⟨b', off + k * 9 + 1 + 2, none⟩ = some (.slice l[k].dA l[k].dn l[k].dc) ∧ w'.cell? ⟨b', off + k * 9 + 1 + 3, none⟩ = some (.int .i64 l[k].C) ∧ w'.cell? ⟨b', off + k * 9 + 1 + 4, none⟩ = some (.int .i64 l[k].L) ∧ w'.cell? ⟨b', off + k * 9 + 1 + 5, none⟩ = some (.bool l[k].M) ∧ w'.cell? ⟨b', off + k * 9 + 1 + 6, none⟩ = some (.int .i64 l[k].N) ∧ w'.cell? ⟨b', off + k * 9 + 1 + 7, none⟩ = some (.slice l[k].oA l[k].os.length l[k].oc)) (first | exact ⟨c0, c1, c2, c3, c4, c5, c6, c7, c8⟩ | exact ⟨(k6 _).trans c0, (k6 _).trans c1, (k6 _).trans c2, (k6 _).trans c3, (k6 _).trans c4, (k6 _).trans c5, (k6 _).trans c6, (k6 _).trans c7, (k6 _).trans c8⟩ | exact ⟨(k7 _).trans c0, (k7 _).trans c1, (k7 _).trans c2, (k7 _).trans c3, (k7 _).trans c4, (k7 _).trans c5, (k7 _).trans c6, (k7 _).trans c7, (k7 _).trans c8⟩) (first | (go_at_call 16; refine (HFs.out _ ?_).mono ?_; (first | (with_reducible exact HB0.out.drew) | (with_reducible exact HB0.out.drew.grown hf7.gr hsm)); rintro e w6 ⟨rfl, hf6⟩; have k6 : ∀ o, w6.cell? ⟨b', o, none⟩ = W0.cell? ⟨b', o, none⟩ := (by first | (exact fun o => (cells_one (w := W0.drew) hf6.gr hbs hns o).trans rfl) | (exact fun o => (cells_one hf6.gr (Nat.lt_of_lt_of_le hbs hf7.gr.size) hns o).trans (k7 o)))) | (go_at_call 17; refine (HFm.out _ ?_).mono ?_; (first | (with_reducible exact HM0.out.drew) | (with_reducible exact HM0.out.drew.grown hf6.gr hms)); rintro e w7 ⟨rfl, hf7⟩; have k7 : ∀ o, w7.cell? ⟨b', o, none⟩ = W0.cell? ⟨b', o, none⟩ := (by first | (exact fun o => (cells_one (w := W0.drew) hf7.gr hbs hnm o).trans rfl) | (exact fun o => (cells_one hf7.gr (Nat.lt_of_lt_of_le hbs hf6.gr.size) hnm o).trans (k6 o)))))
        have hB7 : sBox w7 s t x y z q' := Box.grown hf6.1 hf7.gr hsm
        have hM7 : rBox w7 m t x y z q' := hf7.1
        have hs6 : w.heap.size ≤ w6.heap.size := by have := hf6.gr.size; have := hbw0.size; exact Nat.le_trans ‹w.heap.size ≤ W0.heap.size› ‹_›
        have hbw7 : Below w.heap.size w w7 := below_one (below_one (below_drew hbw0) hf6.gr hb1s hbw0.size) hf7.gr (by omega) hs6
        obtain ⟨d0, d1, d2, d3, d4, d5⟩ := HBD.out
        have hend : Both w w7 s m t (k + 1) := ⟨x, y, z, q', d0, d1, d2, d3, d4, by push_cast; omega, hB7, hM7, hbw7⟩
        clear hB7 hM7 hbw7 hs6 hf6 hf7 k6 k7 HFs HFm c0 c1 c2 c3 c4 c5 c6 c7 c8 HR0 HB0 HM0 hbw0
        go_wp2
        exact ⟨⟨k + 1, by omega, by go_num, hend⟩, by simp [intOf]; omega⟩
      · obtain rfl : k = l.length := by omega
        clear HF
        go_wp2_with fail
        go_quiet ((go_at_call 15; first | exact quiet_left (HQ.out _ ((HB5.out.alloc' _).drewN _)) | exact quiet_add_left (HQ.out _ ((HB5.out.alloc' _).drewN _))))
        go_wp2_with fail
        obtain ⟨W0, hW0⟩ : ∃ W0, (((w5.alloc (.cells #[.int .i64 fq, .int .i64 0, .int .i64 n, .int .i64 0, .int .i64 0] 30)).drewN (m6 + m7)).drewN nq) = W0 := ⟨_, rfl⟩
        rw [hW0]
        have HB0 : Hid (sBox W0 s t lo hi st q) := Lib.hid (by rw [← hW0]; exact HB5.out.alloc' _)
        have HM0 : Hid (rBox W0 m t lo hi st q) := Lib.hid (by rw [← hW0]; exact HM5.out.alloc' _)
        have hbw0 : Below w.heap.size w W0 := by rw [← hW0]; exact below_drewN (below_drewN (ext_alloc hbw5 _) _) _
        clear hW0 q5 z5 l5 qm5 zm5 lm5 HB5 HM5 HQ5 HB4 HM4 hbw5 hbw4 HQ
        go_quiet (fail)
        have hend : ∀ n, Both w (W0.drewN n) s m t (l.length + 1) := fun n => ⟨lo, hi, st, q, b0, b1, b2, b3, b4, by omega, HB0.out.drewN n, HM0.out.drewN n, below_drewN hbw0 n⟩
        have HE := Lib.hid hend
        clear hend HB0 HM0 hbw0
        go_wp2
        exact ⟨⟨l.length + 1, by omega, by go_num, HE.out _⟩, by simp [intOf]⟩
    · obtain rfl : k = l.length + 1 := by omega
      clear hB hM
      go_wp2_with fail
      refine (awake_any _).mono ?_
      rintro e w4 ⟨rfl, hb4⟩
      go_wp2
      go_ret
      exact ⟨rfl, ext_trans hbw hb4⟩

set_option maxRecDepth 100000 in
set_option maxHeartbeats 1000000 in
theorem lawSteps_big (t : Int) (l : List Oc) (A : Option Addr) (c : Nat) (w : World) (hr : Rd w w.heap.size 9 A l.length (ocCells l)) (hm : l.length ≤ maxLen) (hok : ∀ o ∈ l, o.ok w w.heap.size) (hs : outSmall l 20 = false) :
    Calls Try.prog 3 #[.int .i64 t, .slice A l.length c] w fun e w' => e = .returned (.bool true) ∧ Below w.heap.size w w' := by
  have HO := Lib.hid (outcomes_any l A c w.heap.size 20 w hr hm (by omega) hok false hs)
  clear hr hm hok hs
  go_enter Try.func3, Try.ntmps3
  go_wp2_with fail
  refine HO.out.mono ?_
  rintro e w1 ⟨rfl, hb1⟩
  go_wp2_with fail
  refine (awake_any _).mono ?_
  rintro e w2 ⟨rfl, hb2⟩
  go_wp2
  go_ret
  exact ⟨rfl, ext_trans hb1 hb2⟩
set_option maxRecDepth 100000 in
set_option maxHeartbeats 1000000 in
theorem lawSteps_none (t : Int) (l : List Oc) (A : Option Addr) (c : Nat) (w : World) (ht : t < 1 ∨ 4 < t) (hr : Rd w w.heap.size 9 A l.length (ocCells l)) (hm : l.length ≤ maxLen) (hok : ∀ o ∈ l, o.ok w w.heap.size) (hs : outSmall l 20 = true) :
    Calls Try.prog 3 #[.int .i64 t, .slice A l.length c] w fun e w' => e = .returned (.bool true) ∧ Below w.heap.size w w' := by
  have HO := Lib.hid (outcomes_any l A c w.heap.size 20 w hr hm (by omega) hok true hs)
  have HN := Lib.hid (fun w => mqNew_none t w ht)
  have hd : (decide (t < 1) = true) ∨ (decide (t < 1) = false ∧ decide (4 < t) = true) := by
    by_cases h : t < 1
    · exact .inl (by simpa using h)
    · exact .inr ⟨by simpa using h, by simp; omega⟩
  clear hr hm hok hs ht
  rcases hd with h1 | ⟨h1, h2⟩
  all_goals
    go_enter Try.func3, Try.ntmps3
    go_wp2_with fail
    refine HO.out.mono ?_
    rintro e w1 ⟨rfl, hb1⟩
    go_wp2_with fail
    refine (HN.out _).mono ?_
    rintro e w2 ⟨rfl, rfl⟩
    go_wp2_with fail
    refine (awake_any _).mono ?_
    rintro e w2 ⟨rfl, hb2⟩
    go_wp2
    go_ret
    exact ⟨rfl, ext_trans hb1 hb2⟩
theorem lawSteps_any (t : Int) (l : List Oc) (A : Option Addr) (c : Nat) (w : World) (hr : Rd w w.heap.size 9 A l.length (ocCells l)) (hm : l.length ≤ maxLen) (hok : ∀ o ∈ l, o.ok w w.heap.size) :
    Calls Try.prog 3 #[.int .i64 t, .slice A l.length c] w fun e w' => e = .returned (.bool true) ∧ Below w.heap.size w w' := by
  rcases hs : outSmall l 20 with _ | _
  · exact lawSteps_big t l A c w hr hm hok hs
  · by_cases h : 1 ≤ t ∧ t ≤ 4
    · exact lawSteps_small t l A c w h.1 h.2 hr hm hok hs
    · exact lawSteps_none t l A c w (by omega) hr hm hok hs
end Go.Proofs.Ytipcnpnfdoainaa

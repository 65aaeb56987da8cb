/- Layer 24: the reference's Search: Feed. Printed by wip/mqr.py -/
import Derived.Test.YtipcnpnfdoainaaMqR
set_option linter.unusedVariables false
set_option linter.unusedSimpArgs false
namespace Go.Proofs.Ytipcnpnfdoainaa
open Go.RowKit

theorem Box.other {w : World} {b g k : Nat} {cs : Array Value} {v : Value} (h : Box w b cs) (hne : b ≠ g) : Box (w.setCell ⟨g, k, none⟩ v) b cs :=
  ⟨fun i => by rw [World.cell?_setCell_other _ _ _ _ (by intro e; injection e with e _; exact hne e.symm)]; exact h.1 i, fun i => (World.frozen?_setCell _ _ _ _).trans (h.2.1 i), by simpa [World.setCell] using h.2.2⟩
theorem Box.alloc_set {w : World} {p : Addr} {v : Value} {cs : Array Value} {e : TypeId} : Box ((w.setCell p v).alloc (.cells cs e)) w.heap.size cs := by
  have e : (w.setCell p v).heap.size = w.heap.size := by simp [World.setCell]
  rw [← e]; exact Box.alloc_
structure FS (w0 w : World) (b : Nat) (cs : Array Value) (o : Nat) (os : Array Value) (g : Nat) (gs : Array Value) : Prop where
  B : Box w b cs
  O : Box w o os
  G : Box w g gs
  gr : w0.grownBy w (some b)
  ho : o ≠ b
  hg : g ≠ b
theorem FS.below {w0 w w' : World} {b o g : Nat} {cs os gs : Array Value} (h : FS w0 w b cs o os g gs) (hb : Below w.heap.size w w') : FS w0 w' b cs o os g gs :=
  ⟨h.B.below hb, h.O.below hb, h.G.below hb, one_below h.gr hb, h.ho, h.hg⟩
theorem FS.set {w0 w : World} {b o g k : Nat} {cs os gs : Array Value} {v : Value} (cs' : Array Value) (h : FS w0 w b cs o os g gs) (hk : k < cs.size) (e : cs.setIfInBounds k v = cs') : FS w0 (w.setCell ⟨b, k, none⟩ v) b cs' o os g gs :=
  ⟨h.B.set hk e, h.O.other h.ho, h.G.other h.hg, one_set h.gr _ _, h.ho, h.hg⟩
theorem FS.drewN {w0 w : World} {b o g : Nat} {cs os gs : Array Value} (h : FS w0 w b cs o os g gs) (n : Nat) : FS w0 (w.drewN n) b cs o os g gs := ⟨h.B, h.O, h.G, one_drewN h.gr n, h.ho, h.hg⟩
set_option maxRecDepth 100000 in
set_option maxHeartbeats 1000000 in
theorem rFeed_acc_aY (b : Nat) (t lo hi q n : Int) (V F E C L N : Int) (M : Bool) (dA oA : Option Addr) (dn dc on oc : Nat) (w : World) (hB : rBox w b t lo hi 0 q) (h0 : 0 ≤ lo) (h1 : lo ≤ 3000) (h2 : 0 ≤ hi) (h3 : hi ≤ 3000) (hq0 : 0 ≤ q) (hq1 : q ≤ 3000) (hn : mqn lo hi q = n) (hv : V = 1) (hq : q = 0) (hf : hi = n + 1) :
    Calls Try.prog 17 #[.pointer (some ⟨b, 0, none⟩), .agg #[.int .i64 V, .int .i64 F, .int .i64 E, .slice dA dn dc, .int .i64 C, .int .i64 L, .bool M, .int .i64 N, .slice oA on oc]] w fun e w' =>
      e = .returned (.int .i64 0) ∧ RFed w b t n hi 2 (q + 1) w' := by
  obtain ⟨n0, n1⟩ := mqn_bd hn h0 h1 h2 h3
  have hbw : b < w.heap.size := hB.2.2
  have HX := Lib.hid (fun (W : World) (hW : rBox W b t lo hi 0 q) => rNext_open b t lo hi q n W hW h0 h1 h2 h3 hn)
  have HB := Lib.hid hB
  clear hn hB
  subst hv
  subst hq
  subst hf
  go_enter Try.func17, Try.ntmps17
  go_wp2_with fail
  refine (HX.out _ (HB.out.alloc' _)).mono ?_
  rintro e w1 ⟨rfl, hb1⟩
  have g3 : w.heap.size < w1.heap.size := by have := hb1.size; simp at this; omega
  have g4 : b < w1.heap.size := by omega
  have g5 : w1.heap.size ≠ w.heap.size := by omega
  have g6 : w.heap.size ≠ w1.heap.size := by omega
  have g7 : b ≠ w1.heap.size := by omega
  have g8 : b ≠ w.heap.size := by omega
  have g1 : w1.heap.size ≠ b := by omega
  have g2 : w.heap.size ≠ b := by omega
  have FC : FS w ((w1.setCell ⟨b, 3, none⟩ (.int .i64 (0 + 1))).alloc (.cells #[.int .i64 t, .int .i64 0, .int .i64 n, .int .i64 0, .int .i64 0] 30)) b #[.int .i64 t, .int .i64 lo, .int .i64 (n + 1), .int .i64 (0 + 1), .int .i64 0] w.heap.size #[.int .i64 1, .int .i64 F, .int .i64 E, .slice dA dn dc, .int .i64 C, .int .i64 L, .bool M, .int .i64 N, .slice oA on oc] w1.heap.size #[.int .i64 t, .int .i64 0, .int .i64 n, .int .i64 0, .int .i64 0] := ⟨(((HB.out.alloc' _).below hb1).set (k := 3) (by simp) rfl).alloc' _, ((Box.new hb1).other g2).alloc' _, Box.alloc_set, one_alloc (one_set (one_below (one_alloc (one_refl w b) _) hb1) _ _) _, g2, g1⟩
  obtain ⟨q1, z1, l1⟩ := ((HB.out.alloc' _).below hb1)
  obtain ⟨q2, z2, l2⟩ := Box.new hb1
  clear hb1
  go_wp2_with fail
  refine (refused_any 1 F E C L N 1 M dA oA dn dc on oc false rfl _).mono ?_
  rintro e w2 ⟨rfl, hb2⟩
  have FC2 := FS.below FC hb2
  clear FC
  obtain ⟨qb2, zb2, lb2⟩ := FC2.B
  obtain ⟨qo2, zo2, lo2⟩ := FC2.O
  obtain ⟨qg2, zg2, lg2⟩ := FC2.G
  clear hb2
  have FW := FC2.set (k := 1) (v := .int .i64 n) #[.int .i64 t, .int .i64 n, .int .i64 (n + 1), .int .i64 (0 + 1), .int .i64 0] (by simp) rfl
  have FZ := FW.set (k := 4) (v := .int .i64 2) #[.int .i64 t, .int .i64 n, .int .i64 (n + 1), .int .i64 (0 + 1), .int .i64 2] (by simp) rfl
  go_wp2
  go_quiet (fail)
  go_wp2
  go_ret
  exact ⟨rfl, FZ.B, (FZ.drewN _).gr⟩
set_option maxRecDepth 100000 in
set_option maxHeartbeats 1000000 in
theorem rFeed_acc_aN (b : Nat) (t lo hi q n : Int) (V F E C L N : Int) (M : Bool) (dA oA : Option Addr) (dn dc on oc : Nat) (w : World) (hB : rBox w b t lo hi 0 q) (h0 : 0 ≤ lo) (h1 : lo ≤ 3000) (h2 : 0 ≤ hi) (h3 : hi ≤ 3000) (hq0 : 0 ≤ q) (hq1 : q ≤ 3000) (hn : mqn lo hi q = n) (hv : V = 1) (hq : q = 0) (hf : (hi == n + 1) = false) :
    Calls Try.prog 17 #[.pointer (some ⟨b, 0, none⟩), .agg #[.int .i64 V, .int .i64 F, .int .i64 E, .slice dA dn dc, .int .i64 C, .int .i64 L, .bool M, .int .i64 N, .slice oA on oc]] w fun e w' =>
      e = .returned (.int .i64 0) ∧ RFed w b t n hi 0 (q + 1) w' := by
  obtain ⟨n0, n1⟩ := mqn_bd hn h0 h1 h2 h3
  have hbw : b < w.heap.size := hB.2.2
  have HX := Lib.hid (fun (W : World) (hW : rBox W b t lo hi 0 q) => rNext_open b t lo hi q n W hW h0 h1 h2 h3 hn)
  have HB := Lib.hid hB
  clear hn hB
  subst hv
  subst hq
  go_enter Try.func17, Try.ntmps17
  go_wp2_with fail
  refine (HX.out _ (HB.out.alloc' _)).mono ?_
  rintro e w1 ⟨rfl, hb1⟩
  have g3 : w.heap.size < w1.heap.size := by have := hb1.size; simp at this; omega
  have g4 : b < w1.heap.size := by omega
  have g5 : w1.heap.size ≠ w.heap.size := by omega
  have g6 : w.heap.size ≠ w1.heap.size := by omega
  have g7 : b ≠ w1.heap.size := by omega
  have g8 : b ≠ w.heap.size := by omega
  have g1 : w1.heap.size ≠ b := by omega
  have g2 : w.heap.size ≠ b := by omega
  have FC : FS w ((w1.setCell ⟨b, 3, none⟩ (.int .i64 (0 + 1))).alloc (.cells #[.int .i64 t, .int .i64 0, .int .i64 n, .int .i64 0, .int .i64 0] 30)) b #[.int .i64 t, .int .i64 lo, .int .i64 hi, .int .i64 (0 + 1), .int .i64 0] w.heap.size #[.int .i64 1, .int .i64 F, .int .i64 E, .slice dA dn dc, .int .i64 C, .int .i64 L, .bool M, .int .i64 N, .slice oA on oc] w1.heap.size #[.int .i64 t, .int .i64 0, .int .i64 n, .int .i64 0, .int .i64 0] := ⟨(((HB.out.alloc' _).below hb1).set (k := 3) (by simp) rfl).alloc' _, ((Box.new hb1).other g2).alloc' _, Box.alloc_set, one_alloc (one_set (one_below (one_alloc (one_refl w b) _) hb1) _ _) _, g2, g1⟩
  obtain ⟨q1, z1, l1⟩ := ((HB.out.alloc' _).below hb1)
  obtain ⟨q2, z2, l2⟩ := Box.new hb1
  clear hb1
  go_wp2_with fail
  refine (refused_any 1 F E C L N 1 M dA oA dn dc on oc false rfl _).mono ?_
  rintro e w2 ⟨rfl, hb2⟩
  have FC2 := FS.below FC hb2
  clear FC
  obtain ⟨qb2, zb2, lb2⟩ := FC2.B
  obtain ⟨qo2, zo2, lo2⟩ := FC2.O
  obtain ⟨qg2, zg2, lg2⟩ := FC2.G
  clear hb2
  have FW := FC2.set (k := 1) (v := .int .i64 n) #[.int .i64 t, .int .i64 n, .int .i64 hi, .int .i64 (0 + 1), .int .i64 0] (by simp) rfl
  go_wp2
  go_quiet (fail)
  go_wp2
  go_ret
  exact ⟨rfl, FW.B, (FW.drewN _).gr⟩
set_option maxRecDepth 100000 in
set_option maxHeartbeats 1000000 in
theorem rFeed_acc_bY (b : Nat) (t lo hi q n : Int) (V F E C L N : Int) (M : Bool) (dA oA : Option Addr) (dn dc on oc : Nat) (w : World) (hB : rBox w b t lo hi 0 q) (h0 : 0 ≤ lo) (h1 : lo ≤ 3000) (h2 : 0 ≤ hi) (h3 : hi ≤ 3000) (hq0 : 0 ≤ q) (hq1 : q ≤ 3000) (hn : mqn lo hi q = n) (hv : V = 1) (hq : (q == 0) = false) (hf : hi = n + 1) :
    Calls Try.prog 17 #[.pointer (some ⟨b, 0, none⟩), .agg #[.int .i64 V, .int .i64 F, .int .i64 E, .slice dA dn dc, .int .i64 C, .int .i64 L, .bool M, .int .i64 N, .slice oA on oc]] w fun e w' =>
      e = .returned (.int .i64 0) ∧ RFed w b t n hi 2 (q + 1) w' := by
  obtain ⟨n0, n1⟩ := mqn_bd hn h0 h1 h2 h3
  have hbw : b < w.heap.size := hB.2.2
  have HX := Lib.hid (fun (W : World) (hW : rBox W b t lo hi 0 q) => rNext_open b t lo hi q n W hW h0 h1 h2 h3 hn)
  have HB := Lib.hid hB
  clear hn hB
  subst hv
  subst hf
  go_enter Try.func17, Try.ntmps17
  go_wp2_with fail
  refine (HX.out _ (HB.out.alloc' _)).mono ?_
  rintro e w1 ⟨rfl, hb1⟩
  have g3 : w.heap.size < w1.heap.size := by have := hb1.size; simp at this; omega
  have g4 : b < w1.heap.size := by omega
  have g5 : w1.heap.size ≠ w.heap.size := by omega
  have g6 : w.heap.size ≠ w1.heap.size := by omega
  have g7 : b ≠ w1.heap.size := by omega
  have g8 : b ≠ w.heap.size := by omega
  have g1 : w1.heap.size ≠ b := by omega
  have g2 : w.heap.size ≠ b := by omega
  have FC : FS w (((w1.setCell ⟨b, 3, none⟩ (.int .i64 (q + 1))).setCell ⟨b, 1, none⟩ (.int .i64 n)).alloc (.cells #[.int .i64 t, .int .i64 0, .int .i64 n, .int .i64 0, .int .i64 0] 30)) b #[.int .i64 t, .int .i64 n, .int .i64 (n + 1), .int .i64 (q + 1), .int .i64 0] w.heap.size #[.int .i64 1, .int .i64 F, .int .i64 E, .slice dA dn dc, .int .i64 C, .int .i64 L, .bool M, .int .i64 N, .slice oA on oc] w1.heap.size #[.int .i64 t, .int .i64 0, .int .i64 n, .int .i64 0, .int .i64 0] := ⟨((((HB.out.alloc' _).below hb1).set (k := 3) (by simp) rfl).set (k := 1) (by simp) rfl).alloc' _, (((Box.new hb1).other g2).other g2).alloc' _, by have h := @Box.alloc_ ((w1.setCell ⟨b, 3, none⟩ (.int .i64 (q + 1))).setCell ⟨b, 1, none⟩ (.int .i64 n)) #[.int .i64 t, .int .i64 0, .int .i64 n, .int .i64 0, .int .i64 0] 30; simpa [World.setCell] using h, one_alloc (one_set (one_set (one_below (one_alloc (one_refl w b) _) hb1) _ _) _ _) _, g2, g1⟩
  obtain ⟨q1, z1, l1⟩ := ((HB.out.alloc' _).below hb1)
  obtain ⟨q2, z2, l2⟩ := Box.new hb1
  clear hb1
  have FW := FC
  have FZ := FW.set (k := 4) (v := .int .i64 2) #[.int .i64 t, .int .i64 n, .int .i64 (n + 1), .int .i64 (q + 1), .int .i64 2] (by simp) rfl
  go_wp2
  go_quiet (fail)
  go_wp2
  go_ret
  exact ⟨rfl, FZ.B, (FZ.drewN _).gr⟩
set_option maxRecDepth 100000 in
set_option maxHeartbeats 1000000 in
theorem rFeed_acc_bN (b : Nat) (t lo hi q n : Int) (V F E C L N : Int) (M : Bool) (dA oA : Option Addr) (dn dc on oc : Nat) (w : World) (hB : rBox w b t lo hi 0 q) (h0 : 0 ≤ lo) (h1 : lo ≤ 3000) (h2 : 0 ≤ hi) (h3 : hi ≤ 3000) (hq0 : 0 ≤ q) (hq1 : q ≤ 3000) (hn : mqn lo hi q = n) (hv : V = 1) (hq : (q == 0) = false) (hf : (hi == n + 1) = false) :
    Calls Try.prog 17 #[.pointer (some ⟨b, 0, none⟩), .agg #[.int .i64 V, .int .i64 F, .int .i64 E, .slice dA dn dc, .int .i64 C, .int .i64 L, .bool M, .int .i64 N, .slice oA on oc]] w fun e w' =>
      e = .returned (.int .i64 0) ∧ RFed w b t n hi 0 (q + 1) w' := by
  obtain ⟨n0, n1⟩ := mqn_bd hn h0 h1 h2 h3
  have hbw : b < w.heap.size := hB.2.2
  have HX := Lib.hid (fun (W : World) (hW : rBox W b t lo hi 0 q) => rNext_open b t lo hi q n W hW h0 h1 h2 h3 hn)
  have HB := Lib.hid hB
  clear hn hB
  subst hv
  go_enter Try.func17, Try.ntmps17
  go_wp2_with fail
  refine (HX.out _ (HB.out.alloc' _)).mono ?_
  rintro e w1 ⟨rfl, hb1⟩
  have g3 : w.heap.size < w1.heap.size := by have := hb1.size; simp at this; omega
  have g4 : b < w1.heap.size := by omega
  have g5 : w1.heap.size ≠ w.heap.size := by omega
  have g6 : w.heap.size ≠ w1.heap.size := by omega
  have g7 : b ≠ w1.heap.size := by omega
  have g8 : b ≠ w.heap.size := by omega
  have g1 : w1.heap.size ≠ b := by omega
  have g2 : w.heap.size ≠ b := by omega
  have FC : FS w (((w1.setCell ⟨b, 3, none⟩ (.int .i64 (q + 1))).setCell ⟨b, 1, none⟩ (.int .i64 n)).alloc (.cells #[.int .i64 t, .int .i64 0, .int .i64 n, .int .i64 0, .int .i64 0] 30)) b #[.int .i64 t, .int .i64 n, .int .i64 hi, .int .i64 (q + 1), .int .i64 0] w.heap.size #[.int .i64 1, .int .i64 F, .int .i64 E, .slice dA dn dc, .int .i64 C, .int .i64 L, .bool M, .int .i64 N, .slice oA on oc] w1.heap.size #[.int .i64 t, .int .i64 0, .int .i64 n, .int .i64 0, .int .i64 0] := ⟨((((HB.out.alloc' _).below hb1).set (k := 3) (by simp) rfl).set (k := 1) (by simp) rfl).alloc' _, (((Box.new hb1).other g2).other g2).alloc' _, by have h := @Box.alloc_ ((w1.setCell ⟨b, 3, none⟩ (.int .i64 (q + 1))).setCell ⟨b, 1, none⟩ (.int .i64 n)) #[.int .i64 t, .int .i64 0, .int .i64 n, .int .i64 0, .int .i64 0] 30; simpa [World.setCell] using h, one_alloc (one_set (one_set (one_below (one_alloc (one_refl w b) _) hb1) _ _) _ _) _, g2, g1⟩
  obtain ⟨q1, z1, l1⟩ := ((HB.out.alloc' _).below hb1)
  obtain ⟨q2, z2, l2⟩ := Box.new hb1
  clear hb1
  have FW := FC
  go_wp2
  go_quiet (fail)
  go_wp2
  go_ret
  exact ⟨rfl, FW.B, (FW.drewN _).gr⟩
set_option maxRecDepth 100000 in
set_option maxHeartbeats 1000000 in
theorem rFeed_acc_cY (b : Nat) (t lo hi q n : Int) (V F E C L N : Int) (M : Bool) (dA oA : Option Addr) (dn dc on oc : Nat) (w : World) (hB : rBox w b t lo hi 0 q) (h0 : 0 ≤ lo) (h1 : lo ≤ 3000) (h2 : 0 ≤ hi) (h3 : hi ≤ 3000) (hq0 : 0 ≤ q) (hq1 : q ≤ 3000) (hn : mqn lo hi q = n) (hv : V = 2) (he : E = 2) (hq : q = 0) (hf : hi = n + 1) :
    Calls Try.prog 17 #[.pointer (some ⟨b, 0, none⟩), .agg #[.int .i64 V, .int .i64 F, .int .i64 E, .slice dA dn dc, .int .i64 C, .int .i64 L, .bool M, .int .i64 N, .slice oA on oc]] w fun e w' =>
      e = .returned (.int .i64 0) ∧ RFed w b t n hi 2 (q + 1) w' := by
  obtain ⟨n0, n1⟩ := mqn_bd hn h0 h1 h2 h3
  have hbw : b < w.heap.size := hB.2.2
  have HX := Lib.hid (fun (W : World) (hW : rBox W b t lo hi 0 q) => rNext_open b t lo hi q n W hW h0 h1 h2 h3 hn)
  have HB := Lib.hid hB
  clear hn hB
  subst hv he
  subst hq
  subst hf
  go_enter Try.func17, Try.ntmps17
  go_wp2_with fail
  refine (HX.out _ (HB.out.alloc' _)).mono ?_
  rintro e w1 ⟨rfl, hb1⟩
  have g3 : w.heap.size < w1.heap.size := by have := hb1.size; simp at this; omega
  have g4 : b < w1.heap.size := by omega
  have g5 : w1.heap.size ≠ w.heap.size := by omega
  have g6 : w.heap.size ≠ w1.heap.size := by omega
  have g7 : b ≠ w1.heap.size := by omega
  have g8 : b ≠ w.heap.size := by omega
  have g1 : w1.heap.size ≠ b := by omega
  have g2 : w.heap.size ≠ b := by omega
  have FC : FS w ((w1.setCell ⟨b, 3, none⟩ (.int .i64 (0 + 1))).alloc (.cells #[.int .i64 t, .int .i64 0, .int .i64 n, .int .i64 0, .int .i64 0] 30)) b #[.int .i64 t, .int .i64 lo, .int .i64 (n + 1), .int .i64 (0 + 1), .int .i64 0] w.heap.size #[.int .i64 2, .int .i64 F, .int .i64 2, .slice dA dn dc, .int .i64 C, .int .i64 L, .bool M, .int .i64 N, .slice oA on oc] w1.heap.size #[.int .i64 t, .int .i64 0, .int .i64 n, .int .i64 0, .int .i64 0] := ⟨(((HB.out.alloc' _).below hb1).set (k := 3) (by simp) rfl).alloc' _, ((Box.new hb1).other g2).alloc' _, Box.alloc_set, one_alloc (one_set (one_below (one_alloc (one_refl w b) _) hb1) _ _) _, g2, g1⟩
  obtain ⟨q1, z1, l1⟩ := ((HB.out.alloc' _).below hb1)
  obtain ⟨q2, z2, l2⟩ := Box.new hb1
  clear hb1
  go_wp2_with fail
  refine (refused_any 2 F 2 C L N 2 M dA oA dn dc on oc true rfl _).mono ?_
  rintro e w2 ⟨rfl, hb2⟩
  have FC2 := FS.below FC hb2
  clear FC
  obtain ⟨qb2, zb2, lb2⟩ := FC2.B
  obtain ⟨qo2, zo2, lo2⟩ := FC2.O
  obtain ⟨qg2, zg2, lg2⟩ := FC2.G
  clear hb2
  go_wp2_with fail
  refine (refused_any 2 F 2 C L N 1 M dA oA dn dc on oc false rfl _).mono ?_
  rintro e w3 ⟨rfl, hb3⟩
  have FC3 := FS.below FC2 hb3
  clear FC2
  obtain ⟨qb3, zb3, lb3⟩ := FC3.B
  obtain ⟨qo3, zo3, lo3⟩ := FC3.O
  obtain ⟨qg3, zg3, lg3⟩ := FC3.G
  clear hb3
  have FW := FC3.set (k := 1) (v := .int .i64 n) #[.int .i64 t, .int .i64 n, .int .i64 (n + 1), .int .i64 (0 + 1), .int .i64 0] (by simp) rfl
  have FZ := FW.set (k := 4) (v := .int .i64 2) #[.int .i64 t, .int .i64 n, .int .i64 (n + 1), .int .i64 (0 + 1), .int .i64 2] (by simp) rfl
  go_wp2
  go_quiet (fail)
  go_wp2
  go_ret
  exact ⟨rfl, FZ.B, (FZ.drewN _).gr⟩
set_option maxRecDepth 100000 in
set_option maxHeartbeats 1000000 in
theorem rFeed_acc_cN (b : Nat) (t lo hi q n : Int) (V F E C L N : Int) (M : Bool) (dA oA : Option Addr) (dn dc on oc : Nat) (w : World) (hB : rBox w b t lo hi 0 q) (h0 : 0 ≤ lo) (h1 : lo ≤ 3000) (h2 : 0 ≤ hi) (h3 : hi ≤ 3000) (hq0 : 0 ≤ q) (hq1 : q ≤ 3000) (hn : mqn lo hi q = n) (hv : V = 2) (he : E = 2) (hq : q = 0) (hf : (hi == n + 1) = false) :
    Calls Try.prog 17 #[.pointer (some ⟨b, 0, none⟩), .agg #[.int .i64 V, .int .i64 F, .int .i64 E, .slice dA dn dc, .int .i64 C, .int .i64 L, .bool M, .int .i64 N, .slice oA on oc]] w fun e w' =>
      e = .returned (.int .i64 0) ∧ RFed w b t n hi 0 (q + 1) w' := by
  obtain ⟨n0, n1⟩ := mqn_bd hn h0 h1 h2 h3
  have hbw : b < w.heap.size := hB.2.2
  have HX := Lib.hid (fun (W : World) (hW : rBox W b t lo hi 0 q) => rNext_open b t lo hi q n W hW h0 h1 h2 h3 hn)
  have HB := Lib.hid hB
  clear hn hB
  subst hv he
  subst hq
  go_enter Try.func17, Try.ntmps17
  go_wp2_with fail
  refine (HX.out _ (HB.out.alloc' _)).mono ?_
  rintro e w1 ⟨rfl, hb1⟩
  have g3 : w.heap.size < w1.heap.size := by have := hb1.size; simp at this; omega
  have g4 : b < w1.heap.size := by omega
  have g5 : w1.heap.size ≠ w.heap.size := by omega
  have g6 : w.heap.size ≠ w1.heap.size := by omega
  have g7 : b ≠ w1.heap.size := by omega
  have g8 : b ≠ w.heap.size := by omega
  have g1 : w1.heap.size ≠ b := by omega
  have g2 : w.heap.size ≠ b := by omega
  have FC : FS w ((w1.setCell ⟨b, 3, none⟩ (.int .i64 (0 + 1))).alloc (.cells #[.int .i64 t, .int .i64 0, .int .i64 n, .int .i64 0, .int .i64 0] 30)) b #[.int .i64 t, .int .i64 lo, .int .i64 hi, .int .i64 (0 + 1), .int .i64 0] w.heap.size #[.int .i64 2, .int .i64 F, .int .i64 2, .slice dA dn dc, .int .i64 C, .int .i64 L, .bool M, .int .i64 N, .slice oA on oc] w1.heap.size #[.int .i64 t, .int .i64 0, .int .i64 n, .int .i64 0, .int .i64 0] := ⟨(((HB.out.alloc' _).below hb1).set (k := 3) (by simp) rfl).alloc' _, ((Box.new hb1).other g2).alloc' _, Box.alloc_set, one_alloc (one_set (one_below (one_alloc (one_refl w b) _) hb1) _ _) _, g2, g1⟩
  obtain ⟨q1, z1, l1⟩ := ((HB.out.alloc' _).below hb1)
  obtain ⟨q2, z2, l2⟩ := Box.new hb1
  clear hb1
  go_wp2_with fail
  refine (refused_any 2 F 2 C L N 2 M dA oA dn dc on oc true rfl _).mono ?_
  rintro e w2 ⟨rfl, hb2⟩
  have FC2 := FS.below FC hb2
  clear FC
  obtain ⟨qb2, zb2, lb2⟩ := FC2.B
  obtain ⟨qo2, zo2, lo2⟩ := FC2.O
  obtain ⟨qg2, zg2, lg2⟩ := FC2.G
  clear hb2
  go_wp2_with fail
  refine (refused_any 2 F 2 C L N 1 M dA oA dn dc on oc false rfl _).mono ?_
  rintro e w3 ⟨rfl, hb3⟩
  have FC3 := FS.below FC2 hb3
  clear FC2
  obtain ⟨qb3, zb3, lb3⟩ := FC3.B
  obtain ⟨qo3, zo3, lo3⟩ := FC3.O
  obtain ⟨qg3, zg3, lg3⟩ := FC3.G
  clear hb3
  have FW := FC3.set (k := 1) (v := .int .i64 n) #[.int .i64 t, .int .i64 n, .int .i64 hi, .int .i64 (0 + 1), .int .i64 0] (by simp) rfl
  go_wp2
  go_quiet (fail)
  go_wp2
  go_ret
  exact ⟨rfl, FW.B, (FW.drewN _).gr⟩
set_option maxRecDepth 100000 in
set_option maxHeartbeats 1000000 in
theorem rFeed_acc_dY (b : Nat) (t lo hi q n : Int) (V F E C L N : Int) (M : Bool) (dA oA : Option Addr) (dn dc on oc : Nat) (w : World) (hB : rBox w b t lo hi 0 q) (h0 : 0 ≤ lo) (h1 : lo ≤ 3000) (h2 : 0 ≤ hi) (h3 : hi ≤ 3000) (hq0 : 0 ≤ q) (hq1 : q ≤ 3000) (hn : mqn lo hi q = n) (hv : V = 2) (he : E = 2) (hq : (q == 0) = false) (hf : hi = n + 1) :
    Calls Try.prog 17 #[.pointer (some ⟨b, 0, none⟩), .agg #[.int .i64 V, .int .i64 F, .int .i64 E, .slice dA dn dc, .int .i64 C, .int .i64 L, .bool M, .int .i64 N, .slice oA on oc]] w fun e w' =>
      e = .returned (.int .i64 0) ∧ RFed w b t n hi 2 (q + 1) w' := by
  obtain ⟨n0, n1⟩ := mqn_bd hn h0 h1 h2 h3
  have hbw : b < w.heap.size := hB.2.2
  have HX := Lib.hid (fun (W : World) (hW : rBox W b t lo hi 0 q) => rNext_open b t lo hi q n W hW h0 h1 h2 h3 hn)
  have HB := Lib.hid hB
  clear hn hB
  subst hv he
  subst hf
  go_enter Try.func17, Try.ntmps17
  go_wp2_with fail
  refine (HX.out _ (HB.out.alloc' _)).mono ?_
  rintro e w1 ⟨rfl, hb1⟩
  have g3 : w.heap.size < w1.heap.size := by have := hb1.size; simp at this; omega
  have g4 : b < w1.heap.size := by omega
  have g5 : w1.heap.size ≠ w.heap.size := by omega
  have g6 : w.heap.size ≠ w1.heap.size := by omega
  have g7 : b ≠ w1.heap.size := by omega
  have g8 : b ≠ w.heap.size := by omega
  have g1 : w1.heap.size ≠ b := by omega
  have g2 : w.heap.size ≠ b := by omega
  have FC : FS w ((w1.setCell ⟨b, 3, none⟩ (.int .i64 (q + 1))).alloc (.cells #[.int .i64 t, .int .i64 0, .int .i64 n, .int .i64 0, .int .i64 0] 30)) b #[.int .i64 t, .int .i64 lo, .int .i64 (n + 1), .int .i64 (q + 1), .int .i64 0] w.heap.size #[.int .i64 2, .int .i64 F, .int .i64 2, .slice dA dn dc, .int .i64 C, .int .i64 L, .bool M, .int .i64 N, .slice oA on oc] w1.heap.size #[.int .i64 t, .int .i64 0, .int .i64 n, .int .i64 0, .int .i64 0] := ⟨(((HB.out.alloc' _).below hb1).set (k := 3) (by simp) rfl).alloc' _, ((Box.new hb1).other g2).alloc' _, Box.alloc_set, one_alloc (one_set (one_below (one_alloc (one_refl w b) _) hb1) _ _) _, g2, g1⟩
  obtain ⟨q1, z1, l1⟩ := ((HB.out.alloc' _).below hb1)
  obtain ⟨q2, z2, l2⟩ := Box.new hb1
  clear hb1
  go_wp2_with fail
  refine (refused_any 2 F 2 C L N 2 M dA oA dn dc on oc true rfl _).mono ?_
  rintro e w2 ⟨rfl, hb2⟩
  have FC2 := FS.below FC hb2
  clear FC
  obtain ⟨qb2, zb2, lb2⟩ := FC2.B
  obtain ⟨qo2, zo2, lo2⟩ := FC2.O
  obtain ⟨qg2, zg2, lg2⟩ := FC2.G
  clear hb2
  have FW := FC2.set (k := 1) (v := .int .i64 n) #[.int .i64 t, .int .i64 n, .int .i64 (n + 1), .int .i64 (q + 1), .int .i64 0] (by simp) rfl
  have FZ := FW.set (k := 4) (v := .int .i64 2) #[.int .i64 t, .int .i64 n, .int .i64 (n + 1), .int .i64 (q + 1), .int .i64 2] (by simp) rfl
  go_wp2
  go_quiet (fail)
  go_wp2
  go_ret
  exact ⟨rfl, FZ.B, (FZ.drewN _).gr⟩
set_option maxRecDepth 100000 in
set_option maxHeartbeats 1000000 in
theorem rFeed_acc_dN (b : Nat) (t lo hi q n : Int) (V F E C L N : Int) (M : Bool) (dA oA : Option Addr) (dn dc on oc : Nat) (w : World) (hB : rBox w b t lo hi 0 q) (h0 : 0 ≤ lo) (h1 : lo ≤ 3000) (h2 : 0 ≤ hi) (h3 : hi ≤ 3000) (hq0 : 0 ≤ q) (hq1 : q ≤ 3000) (hn : mqn lo hi q = n) (hv : V = 2) (he : E = 2) (hq : (q == 0) = false) (hf : (hi == n + 1) = false) :
    Calls Try.prog 17 #[.pointer (some ⟨b, 0, none⟩), .agg #[.int .i64 V, .int .i64 F, .int .i64 E, .slice dA dn dc, .int .i64 C, .int .i64 L, .bool M, .int .i64 N, .slice oA on oc]] w fun e w' =>
      e = .returned (.int .i64 0) ∧ RFed w b t n hi 0 (q + 1) w' := by
  obtain ⟨n0, n1⟩ := mqn_bd hn h0 h1 h2 h3
  have hbw : b < w.heap.size := hB.2.2
  have HX := Lib.hid (fun (W : World) (hW : rBox W b t lo hi 0 q) => rNext_open b t lo hi q n W hW h0 h1 h2 h3 hn)
  have HB := Lib.hid hB
  clear hn hB
  subst hv he
  go_enter Try.func17, Try.ntmps17
  go_wp2_with fail
  refine (HX.out _ (HB.out.alloc' _)).mono ?_
  rintro e w1 ⟨rfl, hb1⟩
  have g3 : w.heap.size < w1.heap.size := by have := hb1.size; simp at this; omega
  have g4 : b < w1.heap.size := by omega
  have g5 : w1.heap.size ≠ w.heap.size := by omega
  have g6 : w.heap.size ≠ w1.heap.size := by omega
  have g7 : b ≠ w1.heap.size := by omega
  have g8 : b ≠ w.heap.size := by omega
  have g1 : w1.heap.size ≠ b := by omega
  have g2 : w.heap.size ≠ b := by omega
  have FC : FS w ((w1.setCell ⟨b, 3, none⟩ (.int .i64 (q + 1))).alloc (.cells #[.int .i64 t, .int .i64 0, .int .i64 n, .int .i64 0, .int .i64 0] 30)) b #[.int .i64 t, .int .i64 lo, .int .i64 hi, .int .i64 (q + 1), .int .i64 0] w.heap.size #[.int .i64 2, .int .i64 F, .int .i64 2, .slice dA dn dc, .int .i64 C, .int .i64 L, .bool M, .int .i64 N, .slice oA on oc] w1.heap.size #[.int .i64 t, .int .i64 0, .int .i64 n, .int .i64 0, .int .i64 0] := ⟨(((HB.out.alloc' _).below hb1).set (k := 3) (by simp) rfl).alloc' _, ((Box.new hb1).other g2).alloc' _, Box.alloc_set, one_alloc (one_set (one_below (one_alloc (one_refl w b) _) hb1) _ _) _, g2, g1⟩
  obtain ⟨q1, z1, l1⟩ := ((HB.out.alloc' _).below hb1)
  obtain ⟨q2, z2, l2⟩ := Box.new hb1
  clear hb1
  go_wp2_with fail
  refine (refused_any 2 F 2 C L N 2 M dA oA dn dc on oc true rfl _).mono ?_
  rintro e w2 ⟨rfl, hb2⟩
  have FC2 := FS.below FC hb2
  clear FC
  obtain ⟨qb2, zb2, lb2⟩ := FC2.B
  obtain ⟨qo2, zo2, lo2⟩ := FC2.O
  obtain ⟨qg2, zg2, lg2⟩ := FC2.G
  clear hb2
  have FW := FC2.set (k := 1) (v := .int .i64 n) #[.int .i64 t, .int .i64 n, .int .i64 hi, .int .i64 (q + 1), .int .i64 0] (by simp) rfl
  go_wp2
  go_quiet (fail)
  go_wp2
  go_ret
  exact ⟨rfl, FW.B, (FW.drewN _).gr⟩
set_option maxRecDepth 100000 in
set_option maxHeartbeats 1000000 in
theorem rFeed_func (b : Nat) (t lo hi q n : Int) (V F E C L N : Int) (M : Bool) (dA oA : Option Addr) (dn dc on oc : Nat) (w : World) (hB : rBox w b t lo hi 0 q) (h0 : 0 ≤ lo) (h1 : lo ≤ 3000) (h2 : 0 ≤ hi) (h3 : hi ≤ 3000) (hq0 : 0 ≤ q) (hq1 : q ≤ 3000) (hn : mqn lo hi q = n) (hv : V = 2) (he : E = 1) (hq : q = 0) :
    Calls Try.prog 17 #[.pointer (some ⟨b, 0, none⟩), .agg #[.int .i64 V, .int .i64 F, .int .i64 E, .slice dA dn dc, .int .i64 C, .int .i64 L, .bool M, .int .i64 N, .slice oA on oc]] w fun e w' =>
      e = .returned (.int .i64 0) ∧ RFed w b t lo hi 5 (q + 1) w' := by
  obtain ⟨n0, n1⟩ := mqn_bd hn h0 h1 h2 h3
  have hbw : b < w.heap.size := hB.2.2
  have HX := Lib.hid (fun (W : World) (hW : rBox W b t lo hi 0 q) => rNext_open b t lo hi q n W hW h0 h1 h2 h3 hn)
  have HB := Lib.hid hB
  clear hn hB
  subst hv he
  subst hq
  go_enter Try.func17, Try.ntmps17
  go_wp2_with fail
  refine (HX.out _ (HB.out.alloc' _)).mono ?_
  rintro e w1 ⟨rfl, hb1⟩
  have g3 : w.heap.size < w1.heap.size := by have := hb1.size; simp at this; omega
  have g4 : b < w1.heap.size := by omega
  have g5 : w1.heap.size ≠ w.heap.size := by omega
  have g6 : w.heap.size ≠ w1.heap.size := by omega
  have g7 : b ≠ w1.heap.size := by omega
  have g8 : b ≠ w.heap.size := by omega
  have g1 : w1.heap.size ≠ b := by omega
  have g2 : w.heap.size ≠ b := by omega
  have FC : FS w ((w1.setCell ⟨b, 3, none⟩ (.int .i64 (0 + 1))).alloc (.cells #[.int .i64 t, .int .i64 0, .int .i64 n, .int .i64 0, .int .i64 0] 30)) b #[.int .i64 t, .int .i64 lo, .int .i64 hi, .int .i64 (0 + 1), .int .i64 0] w.heap.size #[.int .i64 2, .int .i64 F, .int .i64 1, .slice dA dn dc, .int .i64 C, .int .i64 L, .bool M, .int .i64 N, .slice oA on oc] w1.heap.size #[.int .i64 t, .int .i64 0, .int .i64 n, .int .i64 0, .int .i64 0] := ⟨(((HB.out.alloc' _).below hb1).set (k := 3) (by simp) rfl).alloc' _, ((Box.new hb1).other g2).alloc' _, Box.alloc_set, one_alloc (one_set (one_below (one_alloc (one_refl w b) _) hb1) _ _) _, g2, g1⟩
  obtain ⟨q1, z1, l1⟩ := ((HB.out.alloc' _).below hb1)
  obtain ⟨q2, z2, l2⟩ := Box.new hb1
  clear hb1
  go_wp2_with fail
  refine (refused_any 2 F 1 C L N 2 M dA oA dn dc on oc false rfl _).mono ?_
  rintro e w2 ⟨rfl, hb2⟩
  have FC2 := FS.below FC hb2
  clear FC
  obtain ⟨qb2, zb2, lb2⟩ := FC2.B
  obtain ⟨qo2, zo2, lo2⟩ := FC2.O
  obtain ⟨qg2, zg2, lg2⟩ := FC2.G
  clear hb2
  go_wp2_with fail
  refine (refused_any 2 F 1 C L N 1 M dA oA dn dc on oc true rfl _).mono ?_
  rintro e w3 ⟨rfl, hb3⟩
  have FC3 := FS.below FC2 hb3
  clear FC2
  obtain ⟨qb3, zb3, lb3⟩ := FC3.B
  obtain ⟨qo3, zo3, lo3⟩ := FC3.O
  obtain ⟨qg3, zg3, lg3⟩ := FC3.G
  clear hb3
  have FW := FC3.set (k := 4) (v := .int .i64 5) #[.int .i64 t, .int .i64 lo, .int .i64 hi, .int .i64 (0 + 1), .int .i64 5] (by simp) rfl
  go_wp2
  go_quiet (fail)
  go_wp2
  go_ret
  exact ⟨rfl, FW.B, (FW.drewN _).gr⟩
set_option maxRecDepth 100000 in
set_option maxHeartbeats 1000000 in
theorem rFeed_val_Y (b : Nat) (t lo hi q n : Int) (V F E C L N : Int) (M : Bool) (dA oA : Option Addr) (dn dc on oc : Nat) (w : World) (hB : rBox w b t lo hi 0 q) (h0 : 0 ≤ lo) (h1 : lo ≤ 3000) (h2 : 0 ≤ hi) (h3 : hi ≤ 3000) (hq0 : 0 ≤ q) (hq1 : q ≤ 3000) (hn : mqn lo hi q = n) (hv : V = 2) (he : E = 3) (hq : (q == 0) = false) (hf : n = lo + 1) :
    Calls Try.prog 17 #[.pointer (some ⟨b, 0, none⟩), .agg #[.int .i64 V, .int .i64 F, .int .i64 E, .slice dA dn dc, .int .i64 C, .int .i64 L, .bool M, .int .i64 N, .slice oA on oc]] w fun e w' =>
      e = .returned (.int .i64 0) ∧ RFed w b t lo n 2 (q + 1) w' := by
  obtain ⟨n0, n1⟩ := mqn_bd hn h0 h1 h2 h3
  have hbw : b < w.heap.size := hB.2.2
  have HX := Lib.hid (fun (W : World) (hW : rBox W b t lo hi 0 q) => rNext_open b t lo hi q n W hW h0 h1 h2 h3 hn)
  have HB := Lib.hid hB
  clear hn hB
  subst hv he
  subst hf
  go_enter Try.func17, Try.ntmps17
  go_wp2_with fail
  refine (HX.out _ (HB.out.alloc' _)).mono ?_
  rintro e w1 ⟨rfl, hb1⟩
  have g3 : w.heap.size < w1.heap.size := by have := hb1.size; simp at this; omega
  have g4 : b < w1.heap.size := by omega
  have g5 : w1.heap.size ≠ w.heap.size := by omega
  have g6 : w.heap.size ≠ w1.heap.size := by omega
  have g7 : b ≠ w1.heap.size := by omega
  have g8 : b ≠ w.heap.size := by omega
  have g1 : w1.heap.size ≠ b := by omega
  have g2 : w.heap.size ≠ b := by omega
  have FC : FS w ((w1.setCell ⟨b, 3, none⟩ (.int .i64 (q + 1))).alloc (.cells #[.int .i64 t, .int .i64 0, .int .i64 (lo + 1), .int .i64 0, .int .i64 0] 30)) b #[.int .i64 t, .int .i64 lo, .int .i64 hi, .int .i64 (q + 1), .int .i64 0] w.heap.size #[.int .i64 2, .int .i64 F, .int .i64 3, .slice dA dn dc, .int .i64 C, .int .i64 L, .bool M, .int .i64 N, .slice oA on oc] w1.heap.size #[.int .i64 t, .int .i64 0, .int .i64 (lo + 1), .int .i64 0, .int .i64 0] := ⟨(((HB.out.alloc' _).below hb1).set (k := 3) (by simp) rfl).alloc' _, ((Box.new hb1).other g2).alloc' _, Box.alloc_set, one_alloc (one_set (one_below (one_alloc (one_refl w b) _) hb1) _ _) _, g2, g1⟩
  obtain ⟨q1, z1, l1⟩ := ((HB.out.alloc' _).below hb1)
  obtain ⟨q2, z2, l2⟩ := Box.new hb1
  clear hb1
  go_wp2_with fail
  refine (refused_any 2 F 3 C L N 2 M dA oA dn dc on oc false rfl _).mono ?_
  rintro e w2 ⟨rfl, hb2⟩
  have FC2 := FS.below FC hb2
  clear FC
  obtain ⟨qb2, zb2, lb2⟩ := FC2.B
  obtain ⟨qo2, zo2, lo2⟩ := FC2.O
  obtain ⟨qg2, zg2, lg2⟩ := FC2.G
  clear hb2
  go_wp2_with fail
  refine (refused_any 2 F 3 C L N 3 M dA oA dn dc on oc true rfl _).mono ?_
  rintro e w3 ⟨rfl, hb3⟩
  have FC3 := FS.below FC2 hb3
  clear FC2
  obtain ⟨qb3, zb3, lb3⟩ := FC3.B
  obtain ⟨qo3, zo3, lo3⟩ := FC3.O
  obtain ⟨qg3, zg3, lg3⟩ := FC3.G
  clear hb3
  have FW := FC3.set (k := 2) (v := .int .i64 (lo + 1)) #[.int .i64 t, .int .i64 lo, .int .i64 (lo + 1), .int .i64 (q + 1), .int .i64 0] (by simp) rfl
  have FZ := FW.set (k := 4) (v := .int .i64 2) #[.int .i64 t, .int .i64 lo, .int .i64 (lo + 1), .int .i64 (q + 1), .int .i64 2] (by simp) rfl
  go_wp2
  go_quiet (fail)
  go_wp2
  go_ret
  exact ⟨rfl, FZ.B, (FZ.drewN _).gr⟩
set_option maxRecDepth 100000 in
set_option maxHeartbeats 1000000 in
theorem rFeed_val_N (b : Nat) (t lo hi q n : Int) (V F E C L N : Int) (M : Bool) (dA oA : Option Addr) (dn dc on oc : Nat) (w : World) (hB : rBox w b t lo hi 0 q) (h0 : 0 ≤ lo) (h1 : lo ≤ 3000) (h2 : 0 ≤ hi) (h3 : hi ≤ 3000) (hq0 : 0 ≤ q) (hq1 : q ≤ 3000) (hn : mqn lo hi q = n) (hv : V = 2) (he : E = 3) (hq : (q == 0) = false) (hf : (n == lo + 1) = false) :
    Calls Try.prog 17 #[.pointer (some ⟨b, 0, none⟩), .agg #[.int .i64 V, .int .i64 F, .int .i64 E, .slice dA dn dc, .int .i64 C, .int .i64 L, .bool M, .int .i64 N, .slice oA on oc]] w fun e w' =>
      e = .returned (.int .i64 0) ∧ RFed w b t lo n 0 (q + 1) w' := by
  obtain ⟨n0, n1⟩ := mqn_bd hn h0 h1 h2 h3
  have hbw : b < w.heap.size := hB.2.2
  have HX := Lib.hid (fun (W : World) (hW : rBox W b t lo hi 0 q) => rNext_open b t lo hi q n W hW h0 h1 h2 h3 hn)
  have HB := Lib.hid hB
  clear hn hB
  subst hv he
  go_enter Try.func17, Try.ntmps17
  go_wp2_with fail
  refine (HX.out _ (HB.out.alloc' _)).mono ?_
  rintro e w1 ⟨rfl, hb1⟩
  have g3 : w.heap.size < w1.heap.size := by have := hb1.size; simp at this; omega
  have g4 : b < w1.heap.size := by omega
  have g5 : w1.heap.size ≠ w.heap.size := by omega
  have g6 : w.heap.size ≠ w1.heap.size := by omega
  have g7 : b ≠ w1.heap.size := by omega
  have g8 : b ≠ w.heap.size := by omega
  have g1 : w1.heap.size ≠ b := by omega
  have g2 : w.heap.size ≠ b := by omega
  have FC : FS w ((w1.setCell ⟨b, 3, none⟩ (.int .i64 (q + 1))).alloc (.cells #[.int .i64 t, .int .i64 0, .int .i64 n, .int .i64 0, .int .i64 0] 30)) b #[.int .i64 t, .int .i64 lo, .int .i64 hi, .int .i64 (q + 1), .int .i64 0] w.heap.size #[.int .i64 2, .int .i64 F, .int .i64 3, .slice dA dn dc, .int .i64 C, .int .i64 L, .bool M, .int .i64 N, .slice oA on oc] w1.heap.size #[.int .i64 t, .int .i64 0, .int .i64 n, .int .i64 0, .int .i64 0] := ⟨(((HB.out.alloc' _).below hb1).set (k := 3) (by simp) rfl).alloc' _, ((Box.new hb1).other g2).alloc' _, Box.alloc_set, one_alloc (one_set (one_below (one_alloc (one_refl w b) _) hb1) _ _) _, g2, g1⟩
  obtain ⟨q1, z1, l1⟩ := ((HB.out.alloc' _).below hb1)
  obtain ⟨q2, z2, l2⟩ := Box.new hb1
  clear hb1
  go_wp2_with fail
  refine (refused_any 2 F 3 C L N 2 M dA oA dn dc on oc false rfl _).mono ?_
  rintro e w2 ⟨rfl, hb2⟩
  have FC2 := FS.below FC hb2
  clear FC
  obtain ⟨qb2, zb2, lb2⟩ := FC2.B
  obtain ⟨qo2, zo2, lo2⟩ := FC2.O
  obtain ⟨qg2, zg2, lg2⟩ := FC2.G
  clear hb2
  go_wp2_with fail
  refine (refused_any 2 F 3 C L N 3 M dA oA dn dc on oc true rfl _).mono ?_
  rintro e w3 ⟨rfl, hb3⟩
  have FC3 := FS.below FC2 hb3
  clear FC2
  obtain ⟨qb3, zb3, lb3⟩ := FC3.B
  obtain ⟨qo3, zo3, lo3⟩ := FC3.O
  obtain ⟨qg3, zg3, lg3⟩ := FC3.G
  clear hb3
  have FW := FC3.set (k := 2) (v := .int .i64 n) #[.int .i64 t, .int .i64 lo, .int .i64 n, .int .i64 (q + 1), .int .i64 0] (by simp) rfl
  go_wp2
  go_quiet (fail)
  go_wp2
  go_ret
  exact ⟨rfl, FW.B, (FW.drewN _).gr⟩
set_option maxRecDepth 100000 in
set_option maxHeartbeats 1000000 in
theorem rFeed_unk_a0 (b : Nat) (t lo hi q n : Int) (V F E C L N : Int) (M : Bool) (dA oA : Option Addr) (dn dc on oc : Nat) (w : World) (hB : rBox w b t lo hi 0 q) (h0 : 0 ≤ lo) (h1 : lo ≤ 3000) (h2 : 0 ≤ hi) (h3 : hi ≤ 3000) (hq0 : 0 ≤ q) (hq1 : q ≤ 3000) (hn : mqn lo hi q = n) (v1 : (V == 1) = false) (v2 : (V == 2) = false) (hq : q = 0) :
    Calls Try.prog 17 #[.pointer (some ⟨b, 0, none⟩), .agg #[.int .i64 V, .int .i64 F, .int .i64 E, .slice dA dn dc, .int .i64 C, .int .i64 L, .bool M, .int .i64 N, .slice oA on oc]] w fun e w' =>
      e = .returned (.int .i64 0) ∧ RFed w b t lo hi 4 (q + 1) w' := by
  obtain ⟨n0, n1⟩ := mqn_bd hn h0 h1 h2 h3
  have hbw : b < w.heap.size := hB.2.2
  have HX := Lib.hid (fun (W : World) (hW : rBox W b t lo hi 0 q) => rNext_open b t lo hi q n W hW h0 h1 h2 h3 hn)
  have HB := Lib.hid hB
  clear hn hB
  subst hq
  go_enter Try.func17, Try.ntmps17
  go_wp2_with fail
  refine (HX.out _ (HB.out.alloc' _)).mono ?_
  rintro e w1 ⟨rfl, hb1⟩
  have g3 : w.heap.size < w1.heap.size := by have := hb1.size; simp at this; omega
  have g4 : b < w1.heap.size := by omega
  have g5 : w1.heap.size ≠ w.heap.size := by omega
  have g6 : w.heap.size ≠ w1.heap.size := by omega
  have g7 : b ≠ w1.heap.size := by omega
  have g8 : b ≠ w.heap.size := by omega
  have g1 : w1.heap.size ≠ b := by omega
  have g2 : w.heap.size ≠ b := by omega
  have FC : FS w ((w1.setCell ⟨b, 3, none⟩ (.int .i64 (0 + 1))).alloc (.cells #[.int .i64 t, .int .i64 0, .int .i64 n, .int .i64 0, .int .i64 0] 30)) b #[.int .i64 t, .int .i64 lo, .int .i64 hi, .int .i64 (0 + 1), .int .i64 0] w.heap.size #[.int .i64 V, .int .i64 F, .int .i64 E, .slice dA dn dc, .int .i64 C, .int .i64 L, .bool M, .int .i64 N, .slice oA on oc] w1.heap.size #[.int .i64 t, .int .i64 0, .int .i64 n, .int .i64 0, .int .i64 0] := ⟨(((HB.out.alloc' _).below hb1).set (k := 3) (by simp) rfl).alloc' _, ((Box.new hb1).other g2).alloc' _, Box.alloc_set, one_alloc (one_set (one_below (one_alloc (one_refl w b) _) hb1) _ _) _, g2, g1⟩
  obtain ⟨q1, z1, l1⟩ := ((HB.out.alloc' _).below hb1)
  obtain ⟨q2, z2, l2⟩ := Box.new hb1
  clear hb1
  go_wp2_with fail
  refine (refused_any V F E C L N 2 M dA oA dn dc on oc false (by rw [v2]; rfl) _).mono ?_
  rintro e w2 ⟨rfl, hb2⟩
  have FC2 := FS.below FC hb2
  clear FC
  obtain ⟨qb2, zb2, lb2⟩ := FC2.B
  obtain ⟨qo2, zo2, lo2⟩ := FC2.O
  obtain ⟨qg2, zg2, lg2⟩ := FC2.G
  clear hb2
  go_wp2_with fail
  refine (refused_any V F E C L N 1 M dA oA dn dc on oc false (by rw [v2]; rfl) _).mono ?_
  rintro e w3 ⟨rfl, hb3⟩
  have FC3 := FS.below FC2 hb3
  clear FC2
  obtain ⟨qb3, zb3, lb3⟩ := FC3.B
  obtain ⟨qo3, zo3, lo3⟩ := FC3.O
  obtain ⟨qg3, zg3, lg3⟩ := FC3.G
  clear hb3
  have FW := FC3.set (k := 4) (v := .int .i64 4) #[.int .i64 t, .int .i64 lo, .int .i64 hi, .int .i64 (0 + 1), .int .i64 4] (by simp) rfl
  go_wp2
  go_quiet (fail)
  go_wp2
  go_ret
  exact ⟨rfl, FW.B, (FW.drewN _).gr⟩
set_option maxRecDepth 100000 in
set_option maxHeartbeats 1000000 in
theorem rFeed_unk_a1 (b : Nat) (t lo hi q n : Int) (V F E C L N : Int) (M : Bool) (dA oA : Option Addr) (dn dc on oc : Nat) (w : World) (hB : rBox w b t lo hi 0 q) (h0 : 0 ≤ lo) (h1 : lo ≤ 3000) (h2 : 0 ≤ hi) (h3 : hi ≤ 3000) (hq0 : 0 ≤ q) (hq1 : q ≤ 3000) (hn : mqn lo hi q = n) (v1 : (V == 1) = false) (v2 : (V == 2) = false) (hq : (q == 0) = false) :
    Calls Try.prog 17 #[.pointer (some ⟨b, 0, none⟩), .agg #[.int .i64 V, .int .i64 F, .int .i64 E, .slice dA dn dc, .int .i64 C, .int .i64 L, .bool M, .int .i64 N, .slice oA on oc]] w fun e w' =>
      e = .returned (.int .i64 0) ∧ RFed w b t lo hi 4 (q + 1) w' := by
  obtain ⟨n0, n1⟩ := mqn_bd hn h0 h1 h2 h3
  have hbw : b < w.heap.size := hB.2.2
  have HX := Lib.hid (fun (W : World) (hW : rBox W b t lo hi 0 q) => rNext_open b t lo hi q n W hW h0 h1 h2 h3 hn)
  have HB := Lib.hid hB
  clear hn hB
  go_enter Try.func17, Try.ntmps17
  go_wp2_with fail
  refine (HX.out _ (HB.out.alloc' _)).mono ?_
  rintro e w1 ⟨rfl, hb1⟩
  have g3 : w.heap.size < w1.heap.size := by have := hb1.size; simp at this; omega
  have g4 : b < w1.heap.size := by omega
  have g5 : w1.heap.size ≠ w.heap.size := by omega
  have g6 : w.heap.size ≠ w1.heap.size := by omega
  have g7 : b ≠ w1.heap.size := by omega
  have g8 : b ≠ w.heap.size := by omega
  have g1 : w1.heap.size ≠ b := by omega
  have g2 : w.heap.size ≠ b := by omega
  have FC : FS w ((w1.setCell ⟨b, 3, none⟩ (.int .i64 (q + 1))).alloc (.cells #[.int .i64 t, .int .i64 0, .int .i64 n, .int .i64 0, .int .i64 0] 30)) b #[.int .i64 t, .int .i64 lo, .int .i64 hi, .int .i64 (q + 1), .int .i64 0] w.heap.size #[.int .i64 V, .int .i64 F, .int .i64 E, .slice dA dn dc, .int .i64 C, .int .i64 L, .bool M, .int .i64 N, .slice oA on oc] w1.heap.size #[.int .i64 t, .int .i64 0, .int .i64 n, .int .i64 0, .int .i64 0] := ⟨(((HB.out.alloc' _).below hb1).set (k := 3) (by simp) rfl).alloc' _, ((Box.new hb1).other g2).alloc' _, Box.alloc_set, one_alloc (one_set (one_below (one_alloc (one_refl w b) _) hb1) _ _) _, g2, g1⟩
  obtain ⟨q1, z1, l1⟩ := ((HB.out.alloc' _).below hb1)
  obtain ⟨q2, z2, l2⟩ := Box.new hb1
  clear hb1
  go_wp2_with fail
  refine (refused_any V F E C L N 2 M dA oA dn dc on oc false (by rw [v2]; rfl) _).mono ?_
  rintro e w2 ⟨rfl, hb2⟩
  have FC2 := FS.below FC hb2
  clear FC
  obtain ⟨qb2, zb2, lb2⟩ := FC2.B
  obtain ⟨qo2, zo2, lo2⟩ := FC2.O
  obtain ⟨qg2, zg2, lg2⟩ := FC2.G
  clear hb2
  go_wp2_with fail
  refine (refused_any V F E C L N 3 M dA oA dn dc on oc false (by rw [v2]; rfl) _).mono ?_
  rintro e w3 ⟨rfl, hb3⟩
  have FC3 := FS.below FC2 hb3
  clear FC2
  obtain ⟨qb3, zb3, lb3⟩ := FC3.B
  obtain ⟨qo3, zo3, lo3⟩ := FC3.O
  obtain ⟨qg3, zg3, lg3⟩ := FC3.G
  clear hb3
  have FW := FC3.set (k := 4) (v := .int .i64 4) #[.int .i64 t, .int .i64 lo, .int .i64 hi, .int .i64 (q + 1), .int .i64 4] (by simp) rfl
  go_wp2
  go_quiet (fail)
  go_wp2
  go_ret
  exact ⟨rfl, FW.B, (FW.drewN _).gr⟩
set_option maxRecDepth 100000 in
set_option maxHeartbeats 1000000 in
theorem rFeed_unk_b0 (b : Nat) (t lo hi q n : Int) (V F E C L N : Int) (M : Bool) (dA oA : Option Addr) (dn dc on oc : Nat) (w : World) (hB : rBox w b t lo hi 0 q) (h0 : 0 ≤ lo) (h1 : lo ≤ 3000) (h2 : 0 ≤ hi) (h3 : hi ≤ 3000) (hq0 : 0 ≤ q) (hq1 : q ≤ 3000) (hn : mqn lo hi q = n) (hv : V = 2) (e1 : (E == 1) = false) (e2 : (E == 2) = false) (e3 : (E == 3) = false) (hq : q = 0) :
    Calls Try.prog 17 #[.pointer (some ⟨b, 0, none⟩), .agg #[.int .i64 V, .int .i64 F, .int .i64 E, .slice dA dn dc, .int .i64 C, .int .i64 L, .bool M, .int .i64 N, .slice oA on oc]] w fun e w' =>
      e = .returned (.int .i64 0) ∧ RFed w b t lo hi 4 (q + 1) w' := by
  obtain ⟨n0, n1⟩ := mqn_bd hn h0 h1 h2 h3
  have hbw : b < w.heap.size := hB.2.2
  have HX := Lib.hid (fun (W : World) (hW : rBox W b t lo hi 0 q) => rNext_open b t lo hi q n W hW h0 h1 h2 h3 hn)
  have HB := Lib.hid hB
  clear hn hB
  subst hv
  subst hq
  go_enter Try.func17, Try.ntmps17
  go_wp2_with fail
  refine (HX.out _ (HB.out.alloc' _)).mono ?_
  rintro e w1 ⟨rfl, hb1⟩
  have g3 : w.heap.size < w1.heap.size := by have := hb1.size; simp at this; omega
  have g4 : b < w1.heap.size := by omega
  have g5 : w1.heap.size ≠ w.heap.size := by omega
  have g6 : w.heap.size ≠ w1.heap.size := by omega
  have g7 : b ≠ w1.heap.size := by omega
  have g8 : b ≠ w.heap.size := by omega
  have g1 : w1.heap.size ≠ b := by omega
  have g2 : w.heap.size ≠ b := by omega
  have FC : FS w ((w1.setCell ⟨b, 3, none⟩ (.int .i64 (0 + 1))).alloc (.cells #[.int .i64 t, .int .i64 0, .int .i64 n, .int .i64 0, .int .i64 0] 30)) b #[.int .i64 t, .int .i64 lo, .int .i64 hi, .int .i64 (0 + 1), .int .i64 0] w.heap.size #[.int .i64 2, .int .i64 F, .int .i64 E, .slice dA dn dc, .int .i64 C, .int .i64 L, .bool M, .int .i64 N, .slice oA on oc] w1.heap.size #[.int .i64 t, .int .i64 0, .int .i64 n, .int .i64 0, .int .i64 0] := ⟨(((HB.out.alloc' _).below hb1).set (k := 3) (by simp) rfl).alloc' _, ((Box.new hb1).other g2).alloc' _, Box.alloc_set, one_alloc (one_set (one_below (one_alloc (one_refl w b) _) hb1) _ _) _, g2, g1⟩
  obtain ⟨q1, z1, l1⟩ := ((HB.out.alloc' _).below hb1)
  obtain ⟨q2, z2, l2⟩ := Box.new hb1
  clear hb1
  go_wp2_with fail
  refine (refused_any 2 F E C L N 2 M dA oA dn dc on oc false (by rw [e2]; rfl) _).mono ?_
  rintro e w2 ⟨rfl, hb2⟩
  have FC2 := FS.below FC hb2
  clear FC
  obtain ⟨qb2, zb2, lb2⟩ := FC2.B
  obtain ⟨qo2, zo2, lo2⟩ := FC2.O
  obtain ⟨qg2, zg2, lg2⟩ := FC2.G
  clear hb2
  go_wp2_with fail
  refine (refused_any 2 F E C L N 1 M dA oA dn dc on oc false (by rw [e1]; rfl) _).mono ?_
  rintro e w3 ⟨rfl, hb3⟩
  have FC3 := FS.below FC2 hb3
  clear FC2
  obtain ⟨qb3, zb3, lb3⟩ := FC3.B
  obtain ⟨qo3, zo3, lo3⟩ := FC3.O
  obtain ⟨qg3, zg3, lg3⟩ := FC3.G
  clear hb3
  have FW := FC3.set (k := 4) (v := .int .i64 4) #[.int .i64 t, .int .i64 lo, .int .i64 hi, .int .i64 (0 + 1), .int .i64 4] (by simp) rfl
  go_wp2
  go_quiet (fail)
  go_wp2
  go_ret
  exact ⟨rfl, FW.B, (FW.drewN _).gr⟩
set_option maxRecDepth 100000 in
set_option maxHeartbeats 1000000 in
theorem rFeed_unk_b1 (b : Nat) (t lo hi q n : Int) (V F E C L N : Int) (M : Bool) (dA oA : Option Addr) (dn dc on oc : Nat) (w : World) (hB : rBox w b t lo hi 0 q) (h0 : 0 ≤ lo) (h1 : lo ≤ 3000) (h2 : 0 ≤ hi) (h3 : hi ≤ 3000) (hq0 : 0 ≤ q) (hq1 : q ≤ 3000) (hn : mqn lo hi q = n) (hv : V = 2) (e1 : (E == 1) = false) (e2 : (E == 2) = false) (e3 : (E == 3) = false) (hq : (q == 0) = false) :
    Calls Try.prog 17 #[.pointer (some ⟨b, 0, none⟩), .agg #[.int .i64 V, .int .i64 F, .int .i64 E, .slice dA dn dc, .int .i64 C, .int .i64 L, .bool M, .int .i64 N, .slice oA on oc]] w fun e w' =>
      e = .returned (.int .i64 0) ∧ RFed w b t lo hi 4 (q + 1) w' := by
  obtain ⟨n0, n1⟩ := mqn_bd hn h0 h1 h2 h3
  have hbw : b < w.heap.size := hB.2.2
  have HX := Lib.hid (fun (W : World) (hW : rBox W b t lo hi 0 q) => rNext_open b t lo hi q n W hW h0 h1 h2 h3 hn)
  have HB := Lib.hid hB
  clear hn hB
  subst hv
  go_enter Try.func17, Try.ntmps17
  go_wp2_with fail
  refine (HX.out _ (HB.out.alloc' _)).mono ?_
  rintro e w1 ⟨rfl, hb1⟩
  have g3 : w.heap.size < w1.heap.size := by have := hb1.size; simp at this; omega
  have g4 : b < w1.heap.size := by omega
  have g5 : w1.heap.size ≠ w.heap.size := by omega
  have g6 : w.heap.size ≠ w1.heap.size := by omega
  have g7 : b ≠ w1.heap.size := by omega
  have g8 : b ≠ w.heap.size := by omega
  have g1 : w1.heap.size ≠ b := by omega
  have g2 : w.heap.size ≠ b := by omega
  have FC : FS w ((w1.setCell ⟨b, 3, none⟩ (.int .i64 (q + 1))).alloc (.cells #[.int .i64 t, .int .i64 0, .int .i64 n, .int .i64 0, .int .i64 0] 30)) b #[.int .i64 t, .int .i64 lo, .int .i64 hi, .int .i64 (q + 1), .int .i64 0] w.heap.size #[.int .i64 2, .int .i64 F, .int .i64 E, .slice dA dn dc, .int .i64 C, .int .i64 L, .bool M, .int .i64 N, .slice oA on oc] w1.heap.size #[.int .i64 t, .int .i64 0, .int .i64 n, .int .i64 0, .int .i64 0] := ⟨(((HB.out.alloc' _).below hb1).set (k := 3) (by simp) rfl).alloc' _, ((Box.new hb1).other g2).alloc' _, Box.alloc_set, one_alloc (one_set (one_below (one_alloc (one_refl w b) _) hb1) _ _) _, g2, g1⟩
  obtain ⟨q1, z1, l1⟩ := ((HB.out.alloc' _).below hb1)
  obtain ⟨q2, z2, l2⟩ := Box.new hb1
  clear hb1
  go_wp2_with fail
  refine (refused_any 2 F E C L N 2 M dA oA dn dc on oc false (by rw [e2]; rfl) _).mono ?_
  rintro e w2 ⟨rfl, hb2⟩
  have FC2 := FS.below FC hb2
  clear FC
  obtain ⟨qb2, zb2, lb2⟩ := FC2.B
  obtain ⟨qo2, zo2, lo2⟩ := FC2.O
  obtain ⟨qg2, zg2, lg2⟩ := FC2.G
  clear hb2
  go_wp2_with fail
  refine (refused_any 2 F E C L N 3 M dA oA dn dc on oc false (by rw [e3]; rfl) _).mono ?_
  rintro e w3 ⟨rfl, hb3⟩
  have FC3 := FS.below FC2 hb3
  clear FC2
  obtain ⟨qb3, zb3, lb3⟩ := FC3.B
  obtain ⟨qo3, zo3, lo3⟩ := FC3.O
  obtain ⟨qg3, zg3, lg3⟩ := FC3.G
  clear hb3
  have FW := FC3.set (k := 4) (v := .int .i64 4) #[.int .i64 t, .int .i64 lo, .int .i64 hi, .int .i64 (q + 1), .int .i64 4] (by simp) rfl
  go_wp2
  go_quiet (fail)
  go_wp2
  go_ret
  exact ⟨rfl, FW.B, (FW.drewN _).gr⟩
set_option maxRecDepth 100000 in
set_option maxHeartbeats 1000000 in
theorem rFeed_unk_c1 (b : Nat) (t lo hi q n : Int) (V F E C L N : Int) (M : Bool) (dA oA : Option Addr) (dn dc on oc : Nat) (w : World) (hB : rBox w b t lo hi 0 q) (h0 : 0 ≤ lo) (h1 : lo ≤ 3000) (h2 : 0 ≤ hi) (h3 : hi ≤ 3000) (hq0 : 0 ≤ q) (hq1 : q ≤ 3000) (hn : mqn lo hi q = n) (hv : V = 2) (he : E = 1) (hq : (q == 0) = false) :
    Calls Try.prog 17 #[.pointer (some ⟨b, 0, none⟩), .agg #[.int .i64 V, .int .i64 F, .int .i64 E, .slice dA dn dc, .int .i64 C, .int .i64 L, .bool M, .int .i64 N, .slice oA on oc]] w fun e w' =>
      e = .returned (.int .i64 0) ∧ RFed w b t lo hi 4 (q + 1) w' := by
  obtain ⟨n0, n1⟩ := mqn_bd hn h0 h1 h2 h3
  have hbw : b < w.heap.size := hB.2.2
  have HX := Lib.hid (fun (W : World) (hW : rBox W b t lo hi 0 q) => rNext_open b t lo hi q n W hW h0 h1 h2 h3 hn)
  have HB := Lib.hid hB
  clear hn hB
  subst hv he
  go_enter Try.func17, Try.ntmps17
  go_wp2_with fail
  refine (HX.out _ (HB.out.alloc' _)).mono ?_
  rintro e w1 ⟨rfl, hb1⟩
  have g3 : w.heap.size < w1.heap.size := by have := hb1.size; simp at this; omega
  have g4 : b < w1.heap.size := by omega
  have g5 : w1.heap.size ≠ w.heap.size := by omega
  have g6 : w.heap.size ≠ w1.heap.size := by omega
  have g7 : b ≠ w1.heap.size := by omega
  have g8 : b ≠ w.heap.size := by omega
  have g1 : w1.heap.size ≠ b := by omega
  have g2 : w.heap.size ≠ b := by omega
  have FC : FS w ((w1.setCell ⟨b, 3, none⟩ (.int .i64 (q + 1))).alloc (.cells #[.int .i64 t, .int .i64 0, .int .i64 n, .int .i64 0, .int .i64 0] 30)) b #[.int .i64 t, .int .i64 lo, .int .i64 hi, .int .i64 (q + 1), .int .i64 0] w.heap.size #[.int .i64 2, .int .i64 F, .int .i64 1, .slice dA dn dc, .int .i64 C, .int .i64 L, .bool M, .int .i64 N, .slice oA on oc] w1.heap.size #[.int .i64 t, .int .i64 0, .int .i64 n, .int .i64 0, .int .i64 0] := ⟨(((HB.out.alloc' _).below hb1).set (k := 3) (by simp) rfl).alloc' _, ((Box.new hb1).other g2).alloc' _, Box.alloc_set, one_alloc (one_set (one_below (one_alloc (one_refl w b) _) hb1) _ _) _, g2, g1⟩
  obtain ⟨q1, z1, l1⟩ := ((HB.out.alloc' _).below hb1)
  obtain ⟨q2, z2, l2⟩ := Box.new hb1
  clear hb1
  go_wp2_with fail
  refine (refused_any 2 F 1 C L N 2 M dA oA dn dc on oc false rfl _).mono ?_
  rintro e w2 ⟨rfl, hb2⟩
  have FC2 := FS.below FC hb2
  clear FC
  obtain ⟨qb2, zb2, lb2⟩ := FC2.B
  obtain ⟨qo2, zo2, lo2⟩ := FC2.O
  obtain ⟨qg2, zg2, lg2⟩ := FC2.G
  clear hb2
  go_wp2_with fail
  refine (refused_any 2 F 1 C L N 3 M dA oA dn dc on oc false rfl _).mono ?_
  rintro e w3 ⟨rfl, hb3⟩
  have FC3 := FS.below FC2 hb3
  clear FC2
  obtain ⟨qb3, zb3, lb3⟩ := FC3.B
  obtain ⟨qo3, zo3, lo3⟩ := FC3.O
  obtain ⟨qg3, zg3, lg3⟩ := FC3.G
  clear hb3
  have FW := FC3.set (k := 4) (v := .int .i64 4) #[.int .i64 t, .int .i64 lo, .int .i64 hi, .int .i64 (q + 1), .int .i64 4] (by simp) rfl
  go_wp2
  go_quiet (fail)
  go_wp2
  go_ret
  exact ⟨rfl, FW.B, (FW.drewN _).gr⟩
set_option maxRecDepth 100000 in
set_option maxHeartbeats 1000000 in
theorem rFeed_unk_d0 (b : Nat) (t lo hi q n : Int) (V F E C L N : Int) (M : Bool) (dA oA : Option Addr) (dn dc on oc : Nat) (w : World) (hB : rBox w b t lo hi 0 q) (h0 : 0 ≤ lo) (h1 : lo ≤ 3000) (h2 : 0 ≤ hi) (h3 : hi ≤ 3000) (hq0 : 0 ≤ q) (hq1 : q ≤ 3000) (hn : mqn lo hi q = n) (hv : V = 2) (he : E = 3) (hq : q = 0) :
    Calls Try.prog 17 #[.pointer (some ⟨b, 0, none⟩), .agg #[.int .i64 V, .int .i64 F, .int .i64 E, .slice dA dn dc, .int .i64 C, .int .i64 L, .bool M, .int .i64 N, .slice oA on oc]] w fun e w' =>
      e = .returned (.int .i64 0) ∧ RFed w b t lo hi 4 (q + 1) w' := by
  obtain ⟨n0, n1⟩ := mqn_bd hn h0 h1 h2 h3
  have hbw : b < w.heap.size := hB.2.2
  have HX := Lib.hid (fun (W : World) (hW : rBox W b t lo hi 0 q) => rNext_open b t lo hi q n W hW h0 h1 h2 h3 hn)
  have HB := Lib.hid hB
  clear hn hB
  subst hv he
  subst hq
  go_enter Try.func17, Try.ntmps17
  go_wp2_with fail
  refine (HX.out _ (HB.out.alloc' _)).mono ?_
  rintro e w1 ⟨rfl, hb1⟩
  have g3 : w.heap.size < w1.heap.size := by have := hb1.size; simp at this; omega
  have g4 : b < w1.heap.size := by omega
  have g5 : w1.heap.size ≠ w.heap.size := by omega
  have g6 : w.heap.size ≠ w1.heap.size := by omega
  have g7 : b ≠ w1.heap.size := by omega
  have g8 : b ≠ w.heap.size := by omega
  have g1 : w1.heap.size ≠ b := by omega
  have g2 : w.heap.size ≠ b := by omega
  have FC : FS w ((w1.setCell ⟨b, 3, none⟩ (.int .i64 (0 + 1))).alloc (.cells #[.int .i64 t, .int .i64 0, .int .i64 n, .int .i64 0, .int .i64 0] 30)) b #[.int .i64 t, .int .i64 lo, .int .i64 hi, .int .i64 (0 + 1), .int .i64 0] w.heap.size #[.int .i64 2, .int .i64 F, .int .i64 3, .slice dA dn dc, .int .i64 C, .int .i64 L, .bool M, .int .i64 N, .slice oA on oc] w1.heap.size #[.int .i64 t, .int .i64 0, .int .i64 n, .int .i64 0, .int .i64 0] := ⟨(((HB.out.alloc' _).below hb1).set (k := 3) (by simp) rfl).alloc' _, ((Box.new hb1).other g2).alloc' _, Box.alloc_set, one_alloc (one_set (one_below (one_alloc (one_refl w b) _) hb1) _ _) _, g2, g1⟩
  obtain ⟨q1, z1, l1⟩ := ((HB.out.alloc' _).below hb1)
  obtain ⟨q2, z2, l2⟩ := Box.new hb1
  clear hb1
  go_wp2_with fail
  refine (refused_any 2 F 3 C L N 2 M dA oA dn dc on oc false rfl _).mono ?_
  rintro e w2 ⟨rfl, hb2⟩
  have FC2 := FS.below FC hb2
  clear FC
  obtain ⟨qb2, zb2, lb2⟩ := FC2.B
  obtain ⟨qo2, zo2, lo2⟩ := FC2.O
  obtain ⟨qg2, zg2, lg2⟩ := FC2.G
  clear hb2
  go_wp2_with fail
  refine (refused_any 2 F 3 C L N 1 M dA oA dn dc on oc false rfl _).mono ?_
  rintro e w3 ⟨rfl, hb3⟩
  have FC3 := FS.below FC2 hb3
  clear FC2
  obtain ⟨qb3, zb3, lb3⟩ := FC3.B
  obtain ⟨qo3, zo3, lo3⟩ := FC3.O
  obtain ⟨qg3, zg3, lg3⟩ := FC3.G
  clear hb3
  have FW := FC3.set (k := 4) (v := .int .i64 4) #[.int .i64 t, .int .i64 lo, .int .i64 hi, .int .i64 (0 + 1), .int .i64 4] (by simp) rfl
  go_wp2
  go_quiet (fail)
  go_wp2
  go_ret
  exact ⟨rfl, FW.B, (FW.drewN _).gr⟩

theorem rFeed_any (b : Nat) (t lo hi q lo' hi' st' : Int) (V F E C L N : Int) (M : Bool) (dA oA : Option Addr) (dn dc on oc : Nat) (w : World) (hB : rBox w b t lo hi 0 q) (h0 : 0 ≤ lo) (h1 : lo ≤ 3000) (h2 : 0 ≤ hi) (h3 : hi ≤ 3000) (hq0 : 0 ≤ q) (hq1 : q ≤ 3000)
    (hf : mfeed V E lo hi q = (lo', hi', st')) :
    Calls Try.prog 17 #[.pointer (some ⟨b, 0, none⟩), .agg #[.int .i64 V, .int .i64 F, .int .i64 E, .slice dA dn dc, .int .i64 C, .int .i64 L, .bool M, .int .i64 N, .slice oA on oc]] w fun e w' =>
      e = .returned (.int .i64 0) ∧ RFed w b t lo' hi' st' (q + 1) w' := by
  have hm := mcases hf
  clear hf
  rcases hm with ⟨hv, hn, hh, hs⟩ | ⟨hq, hv, he, hl, hh, hs⟩ | ⟨hq, hv, he, hl, hh, hs⟩ | ⟨hl, hh, hs, hr⟩
  · subst hn; have hh := hh.symm; subst hh
    by_cases hq : q = 0
    · rcases hv with hv | ⟨hv, he⟩ <;> rcases hs with ⟨hf, rfl⟩ | ⟨hf, rfl⟩
      · exact rFeed_acc_aY b t lo hi q (mqn lo hi q) V F E C L N M dA oA dn dc on oc w hB h0 h1 h2 h3 hq0 hq1 rfl hv hq hf
      · exact rFeed_acc_aN b t lo hi q (mqn lo hi q) V F E C L N M dA oA dn dc on oc w hB h0 h1 h2 h3 hq0 hq1 rfl hv hq hf
      · exact rFeed_acc_cY b t lo hi q (mqn lo hi q) V F E C L N M dA oA dn dc on oc w hB h0 h1 h2 h3 hq0 hq1 rfl hv he hq hf
      · exact rFeed_acc_cN b t lo hi q (mqn lo hi q) V F E C L N M dA oA dn dc on oc w hB h0 h1 h2 h3 hq0 hq1 rfl hv he hq hf
    · have hq : (q == 0) = false := by simpa using hq
      rcases hv with hv | ⟨hv, he⟩ <;> rcases hs with ⟨hf, rfl⟩ | ⟨hf, rfl⟩
      · exact rFeed_acc_bY b t lo hi q (mqn lo hi q) V F E C L N M dA oA dn dc on oc w hB h0 h1 h2 h3 hq0 hq1 rfl hv hq hf
      · exact rFeed_acc_bN b t lo hi q (mqn lo hi q) V F E C L N M dA oA dn dc on oc w hB h0 h1 h2 h3 hq0 hq1 rfl hv hq hf
      · exact rFeed_acc_dY b t lo hi q (mqn lo hi q) V F E C L N M dA oA dn dc on oc w hB h0 h1 h2 h3 hq0 hq1 rfl hv he hq hf
      · exact rFeed_acc_dN b t lo hi q (mqn lo hi q) V F E C L N M dA oA dn dc on oc w hB h0 h1 h2 h3 hq0 hq1 rfl hv he hq hf
  · have hl := hl.symm; have hh := hh.symm; subst hl hh hs
    exact rFeed_func b t lo hi q (mqn lo hi q) V F E C L N M dA oA dn dc on oc w hB h0 h1 h2 h3 hq0 hq1 rfl hv he hq
  · have hl := hl.symm; subst hl hh
    rcases hs with ⟨hf, rfl⟩ | ⟨hf, rfl⟩
    · exact rFeed_val_Y b t lo hi q (mqn lo hi q) V F E C L N M dA oA dn dc on oc w hB h0 h1 h2 h3 hq0 hq1 rfl hv he hq hf
    · exact rFeed_val_N b t lo hi q (mqn lo hi q) V F E C L N M dA oA dn dc on oc w hB h0 h1 h2 h3 hq0 hq1 rfl hv he hq hf
  · have hl := hl.symm; have hh := hh.symm; subst hl hh hs
    rcases hr with ⟨v1, v2⟩ | ⟨hv, v1, v2, v3⟩ | ⟨hv, he, hq⟩ | ⟨hv, he, hq⟩
    · by_cases hq : q = 0
      · exact rFeed_unk_a0 b t lo hi q (mqn lo hi q) V F E C L N M dA oA dn dc on oc w hB h0 h1 h2 h3 hq0 hq1 rfl v1 v2 hq
      · exact rFeed_unk_a1 b t lo hi q (mqn lo hi q) V F E C L N M dA oA dn dc on oc w hB h0 h1 h2 h3 hq0 hq1 rfl v1 v2 (by simpa using hq)
    · by_cases hq : q = 0
      · exact rFeed_unk_b0 b t lo hi q (mqn lo hi q) V F E C L N M dA oA dn dc on oc w hB h0 h1 h2 h3 hq0 hq1 rfl hv v1 v2 v3 hq
      · exact rFeed_unk_b1 b t lo hi q (mqn lo hi q) V F E C L N M dA oA dn dc on oc w hB h0 h1 h2 h3 hq0 hq1 rfl hv v1 v2 v3 (by simpa using hq)
    · exact rFeed_unk_c1 b t lo hi q (mqn lo hi q) V F E C L N M dA oA dn dc on oc w hB h0 h1 h2 h3 hq0 hq1 rfl hv he hq
    · exact rFeed_unk_d0 b t lo hi q (mqn lo hi q) V F E C L N M dA oA dn dc on oc w hB h0 h1 h2 h3 hq0 hq1 rfl hv he hq
end Go.Proofs.Ytipcnpnfdoainaa

/- Layer 18: contracts of Unit, Attempts, Lost and of the reference's (printed by budu.py). -/
import Derived.Test.YtjpljjhnjholdaaUniB
import Derived.Test.YtjpljjhnjholdaaBudM
set_option linter.unusedVariables false
set_option linter.unusedSimpArgs false
namespace Go.Proofs.Ytjpljjhnjholdaa
open Go.RowKit

def addZ (s c : Int) : Int := if 0 < c then s + winZ c else 0
def unitZ (x : Cf) : Int := if checkZ x = 0 then 34 + addZ 12 x.w0c + addZ 12 x.w1c + addZ 8 x.w2c + addZ 8 x.w3c else 0
def attZ (x : Cf) : Int := if checkZ x = 0 then (x.re + 1) * unitsZ x * unitZ x else 0
def lostZ (x : Cf) : Int := if checkZ x = 0 then x.ev * (x.re + 1) else 0
theorem win_bd (n : Int) : 0 ≤ winZ n ∧ winZ n ≤ 9728 := by
  unfold winZ
  split
  · rename_i h
    have hl := logZ_le n
    have h1 : (0 : Int) ≤ n * (3 + logZ n) := Int.mul_nonneg (by omega) (by omega)
    have h2 : n * (3 + logZ n) ≤ 512 * 19 := Int.mul_le_mul (by omega) (by omega) (by omega) (by omega)
    omega
  · omega
theorem add_bd (s c : Int) (h0 : 0 ≤ s) (h1 : s ≤ 12) : 0 ≤ addZ s c ∧ addZ s c ≤ 9740 := by
  have := win_bd c
  unfold addZ
  split <;> omega
theorem unit_bd (x : Cf) : 0 ≤ unitZ x ∧ unitZ x ≤ 38994 := by
  unfold unitZ
  split
  · have h0 := add_bd 12 x.w0c (by omega) (by omega)
    have h1 := add_bd 12 x.w1c (by omega) (by omega)
    have h2 := add_bd 8 x.w2c (by omega) (by omega)
    have h3 := add_bd 8 x.w3c (by omega) (by omega)
    omega
  · omega
theorem sch_eq (t z : Int) (h : schZ t = z) (w : World) : Calls Try.prog 10 #[.int .i64 t] w fun e w' => e = .returned (.int .i64 z) ∧ w = w' := h ▸ sch_any t w
theorem rsch_eq (t z : Int) (h : schZ t = z) (w : World) : Calls Try.prog 11 #[.int .i64 t] w fun e w' => e = .returned (.int .i64 z) ∧ w = w' := h ▸ rsch_any t w
theorem win_eq (n z : Int) (h : winZ n = z) (w : World) : Calls Try.prog 12 #[.int .i64 n] w fun e w' => e = .returned (.int .i64 z) ∧ w = w' := h ▸ win_any n w
theorem rwin_eq (n z : Int) (h : winZ n = z) (w : World) : Calls Try.prog 13 #[.int .i64 n] w fun e w' => e = .returned (.int .i64 z) ∧ w = w' := h ▸ rwin_any n w

set_option maxRecDepth 100000 in
set_option maxHeartbeats 2000000 in
theorem unit_any (x : Cf) (A : Option Addr) (n c B : Nat) (z : Int) (w : World) (hr : Rd w B 2 A n (stCells x.ss)) (hl : x.ss.length = n) (hn : n ≤ maxLen) (hz : unitZ x = z) :
    Calls Try.prog 18 #[cfV A n c x] w fun e w' => e = .returned (.int .i64 z) ∧ Below w.heap.size w w' := by
  have hr := hr.fits (by decide)
  obtain ⟨k, hk⟩ : ∃ k, checkZ x = k := ⟨_, rfl⟩
  have HC := Lib.hid (fun (W : World) (h : Below w.heap.size w W) => check_any x A n c _ k W (hr.below h (Nat.le_refl _)) hl hn hk)
  have hz2 : (if k = 0 then 34 + addZ 12 x.w0c + addZ 12 x.w1c + addZ 8 x.w2c + addZ 8 x.w3c else 0) = z := by rw [← hz, unitZ, hk]
  clear hr hk hl hz
  obtain ⟨ss, fi, la, re, ti, de, w0f, w0c, w1f, w1c, w2f, w2c, w3f, w3c, ev, st⟩ := x
  dsimp only at hz2
  have hbx := (Below.refl w.heap.size w).alloc (Nat.le_refl _) (.cells #[.slice A n c, .int .i64 fi, .int .i64 la, .int .i64 re, .int .i64 ti, .int .i64 de, .int .i64 w0f, .int .i64 w0c, .int .i64 w1f, .int .i64 w1c, .int .i64 w2f, .int .i64 w2c, .int .i64 w3f, .int .i64 w3c, .int .i64 ev, .int .i64 st] 33)
  by_cases h0 : k = 0
  · rw [if_pos h0] at hz2
    subst h0
    obtain ⟨v0, hv0⟩ : ∃ v, winZ w0c = v := ⟨_, rfl⟩
    have hb0 := win_bd w0c
    have HV0 := Lib.hid (fun w => win_eq w0c v0 hv0 w)
    obtain ⟨a0, ha0⟩ : ∃ a, addZ 12 w0c = a := ⟨_, rfl⟩
    have hc0 := add_bd 12 w0c (by omega) (by omega)
    have HA0 := Lib.hid (show (if 0 < w0c then 12 + v0 else 0) = a0 by rw [← ha0, addZ, hv0])
    rw [hv0] at hb0
    rw [ha0] at hc0
    obtain ⟨hb00, hb01⟩ := hb0
    obtain ⟨hc00, hc01⟩ := hc0
    obtain ⟨v1, hv1⟩ : ∃ v, winZ w1c = v := ⟨_, rfl⟩
    have hb1 := win_bd w1c
    have HV1 := Lib.hid (fun w => win_eq w1c v1 hv1 w)
    obtain ⟨a1, ha1⟩ : ∃ a, addZ 12 w1c = a := ⟨_, rfl⟩
    have hc1 := add_bd 12 w1c (by omega) (by omega)
    have HA1 := Lib.hid (show (if 0 < w1c then 12 + v1 else 0) = a1 by rw [← ha1, addZ, hv1])
    rw [hv1] at hb1
    rw [ha1] at hc1
    obtain ⟨hb10, hb11⟩ := hb1
    obtain ⟨hc10, hc11⟩ := hc1
    obtain ⟨v2, hv2⟩ : ∃ v, winZ w2c = v := ⟨_, rfl⟩
    have hb2 := win_bd w2c
    have HV2 := Lib.hid (fun w => win_eq w2c v2 hv2 w)
    obtain ⟨a2, ha2⟩ : ∃ a, addZ 8 w2c = a := ⟨_, rfl⟩
    have hc2 := add_bd 8 w2c (by omega) (by omega)
    have HA2 := Lib.hid (show (if 0 < w2c then 8 + v2 else 0) = a2 by rw [← ha2, addZ, hv2])
    rw [hv2] at hb2
    rw [ha2] at hc2
    obtain ⟨hb20, hb21⟩ := hb2
    obtain ⟨hc20, hc21⟩ := hc2
    obtain ⟨v3, hv3⟩ : ∃ v, winZ w3c = v := ⟨_, rfl⟩
    have hb3 := win_bd w3c
    have HV3 := Lib.hid (fun w => win_eq w3c v3 hv3 w)
    obtain ⟨a3, ha3⟩ : ∃ a, addZ 8 w3c = a := ⟨_, rfl⟩
    have hc3 := add_bd 8 w3c (by omega) (by omega)
    have HA3 := Lib.hid (show (if 0 < w3c then 8 + v3 else 0) = a3 by rw [← ha3, addZ, hv3])
    rw [hv3] at hb3
    rw [ha3] at hc3
    obtain ⟨hb30, hb31⟩ := hb3
    obtain ⟨hc30, hc31⟩ := hc3
    rw [ha0, ha1, ha2, ha3] at hz2
    have HZ := Lib.hid hz2
    clear hz2 hv0 hv1 hv2 hv3 ha0 ha1 ha2 ha3
    go_enter Try.func18, Try.ntmps18
    go_wp2_with fail
    refine (HC.out _ hbx).mono ?_
    rintro e w1 ⟨rfl, hb1⟩
    have HB1 := Lib.hid (Box.new hb1)
    have hbw := hbx.trans (hb1.mono hbx.size)
    obtain ⟨q1, z1, l1⟩ := HB1.out
    clear hb1 hbx HC
    go_wp2_with fail
    have i0 : ∀ w, (Instr.index 31 (.agg #[.int .i64 w0f, .int .i64 w0c, .int .i64 w1f, .int .i64 w1c, .int .i64 w2f, .int .i64 w2c, .int .i64 w3f, .int .i64 w3c]) (.int .i64 0)).run Try.prog w = .ok (.agg #[.int .i64 w0f, .int .i64 w0c]) w := fun _ => by kernel_rfl
    have i1 : ∀ w, (Instr.index 31 (.agg #[.int .i64 w0f, .int .i64 w0c, .int .i64 w1f, .int .i64 w1c, .int .i64 w2f, .int .i64 w2c, .int .i64 w3f, .int .i64 w3c]) (.int .i64 1)).run Try.prog w = .ok (.agg #[.int .i64 w1f, .int .i64 w1c]) w := fun _ => by kernel_rfl
    have i2 : ∀ w, (Instr.index 31 (.agg #[.int .i64 w0f, .int .i64 w0c, .int .i64 w1f, .int .i64 w1c, .int .i64 w2f, .int .i64 w2c, .int .i64 w3f, .int .i64 w3c]) (.int .i64 2)).run Try.prog w = .ok (.agg #[.int .i64 w2f, .int .i64 w2c]) w := fun _ => by kernel_rfl
    have i3 : ∀ w, (Instr.index 31 (.agg #[.int .i64 w0f, .int .i64 w0c, .int .i64 w1f, .int .i64 w1c, .int .i64 w2f, .int .i64 w2c, .int .i64 w3f, .int .i64 w3c]) (.int .i64 3)).run Try.prog w = .ok (.agg #[.int .i64 w3f, .int .i64 w3c]) w := fun _ => by kernel_rfl
    go_loopw [3, 4, 5, 11] (fun s _ _ i wr => ((i = .int .i64 0 ∧ s = .int .i64 (34)) ∨ (i = .int .i64 1 ∧ s = .int .i64 (34 + a0)) ∨ (i = .int .i64 2 ∧ s = .int .i64 (34 + a0 + a1)) ∨ (i = .int .i64 3 ∧ s = .int .i64 (34 + a0 + a1 + a2)) ∨ (i = .int .i64 4 ∧ s = .int .i64 (34 + a0 + a1 + a2 + a3))) ∧ Below w.heap.size w wr) (fun _ _ _ i _ => 4 - (intOf i).toNat)
    case atStart => exact ⟨.inl ⟨rfl, rfl⟩, hbw⟩
    case round =>
      obtain ⟨hrel, hbr⟩ := hrel
      clear q1 z1 l1 HB1
      rcases hrel with ⟨rfl, rfl⟩ | ⟨rfl, rfl⟩ | ⟨rfl, rfl⟩ | ⟨rfl, rfl⟩ | ⟨rfl, rfl⟩
      · by_cases hp : 0 < w0c
        · obtain ⟨g, hg⟩ : ∃ g, wr.heap.size = g := ⟨_, rfl⟩
          obtain ⟨W1, hW1⟩ : ∃ W1, wr.alloc (.cells #[.int .i64 w0f, .int .i64 w0c] 30) = W1 := ⟨_, rfl⟩
          have hBw : Box W1 g #[.int .i64 w0f, .int .i64 w0c] := hW1 ▸ hg ▸ Box.alloc_
          have hbr1 : Below w.heap.size w W1 := hW1 ▸ hbr.alloc hbr.size _
          have y1 : W1.cell? ⟨g, 1, none⟩ = some (.int .i64 w0c) := hBw.1 1
          go_wp2_with fail
          try rw [hg]
          try rw [hW1]
          clear hW1 hg
          have hS : (W1.drew.cell? ⟨g, 1, none⟩ = some (.int .i64 w0c)) ∧ True ∧ True := ⟨hBw.1 1, trivial, trivial⟩
          refine rgs_start (fun w' => (w'.cell? ⟨g, 1, none⟩ = some (.int .i64 w0c)) ∧ True ∧ True) (by kernel_rfl) ?_
          refine rgs_t (v := ?_) (some 18) 0 (by kernel_rfl) rfl rfl (by assumption) (.inl ⟨by rfl, fun w' hw => ?_⟩) ?_
          rotate_left
          · obtain ⟨q1, q2, q3⟩ := hw; go_simp <;> with_reducible rfl
          try simp only [Act.put, List.setIfInBounds_toArray, List.set_cons_zero, List.set_cons_succ]
          refine rgs_t (v := ?_) (some 19) 1 (by kernel_rfl) rfl rfl (by assumption) (.inl ⟨by rfl, fun w' hw => ?_⟩) ?_
          rotate_left
          · obtain ⟨q1, q2, q3⟩ := hw; go_simp <;> with_reducible rfl
          try simp only [Act.put, List.setIfInBounds_toArray, List.set_cons_zero, List.set_cons_succ]
          refine rgs_t (v := ?_) (some 20) 2 (by kernel_rfl) rfl rfl (by assumption) (.inl ⟨by rfl, fun w' hw => ?_⟩) ?_
          rotate_left
          · obtain ⟨q1, q2, q3⟩ := hw; go_simp <;> with_reducible rfl
          try simp only [Act.put, List.setIfInBounds_toArray, List.set_cons_zero, List.set_cons_succ]
          refine rgs_q (v := ?_) (some 21) 3 (by kernel_rfl) rfl rfl (by assumption) (by rfl) (fun w' hw K hK => ?_) ?_
          rotate_left
          · obtain ⟨q1, q2, q3⟩ := hw
            go_simp
            refine (sch_eq _ 12 (by decide) _).mono ?_
            rintro e w2 ⟨rfl, rfl⟩
            exact hK
          try simp only [Act.put, List.setIfInBounds_toArray, List.set_cons_zero, List.set_cons_succ]
          refine rgs_t (v := ?_) (some 22) 4 (by kernel_rfl) rfl rfl (by assumption) (.inl ⟨by rfl, fun w' hw => ?_⟩) ?_
          rotate_left
          · obtain ⟨q1, q2, q3⟩ := hw; go_simp <;> with_reducible rfl
          try simp only [Act.put, List.setIfInBounds_toArray, List.set_cons_zero, List.set_cons_succ]
          refine rgs_t (v := ?_) (some 23) 5 (by kernel_rfl) rfl rfl (by assumption) (.inl ⟨by rfl, fun w' hw => ?_⟩) ?_
          rotate_left
          · obtain ⟨q1, q2, q3⟩ := hw; go_simp <;> with_reducible rfl
          try simp only [Act.put, List.setIfInBounds_toArray, List.set_cons_zero, List.set_cons_succ]
          refine rgs_q (v := ?_) (some 24) 6 (by kernel_rfl) rfl rfl (by assumption) (by rfl) (fun w' hw K hK => ?_) ?_
          rotate_left
          · obtain ⟨q1, q2, q3⟩ := hw
            go_simp
            refine (HV0.out _).mono ?_
            rintro e w2 ⟨rfl, rfl⟩
            exact hK
          try simp only [Act.put, List.setIfInBounds_toArray, List.set_cons_zero, List.set_cons_succ]
          refine rgs_t (v := ?_) (some 25) 7 (by kernel_rfl) rfl rfl (by assumption) (.inl ⟨by rfl, fun w' hw => ?_⟩) ?_
          rotate_left
          · obtain ⟨q1, q2, q3⟩ := hw; go_simp <;> with_reducible rfl
          try simp only [Act.put, List.setIfInBounds_toArray, List.set_cons_zero, List.set_cons_succ]
          refine rgs_t (v := ?_) (some 26) 8 (by kernel_rfl) rfl rfl (by assumption) (.inl ⟨by rfl, fun w' hw => ?_⟩) ?_
          rotate_left
          · obtain ⟨q1, q2, q3⟩ := hw; go_simp <;> with_reducible rfl
          try simp only [Act.put, List.setIfInBounds_toArray, List.set_cons_zero, List.set_cons_succ]
          refine rgs_t (v := ?_) (some 3) 9 (by kernel_rfl) rfl rfl (by assumption) (.inl ⟨by rfl, fun w' hw => ?_⟩) ?_
          rotate_left
          · obtain ⟨q1, q2, q3⟩ := hw; go_simp <;> with_reducible rfl
          try simp only [Act.put, List.setIfInBounds_toArray, List.set_cons_zero, List.set_cons_succ]
          refine rgs_d (by kernel_rfl) ?_
          have ha := HA0.out
          rw [if_pos hp] at ha
          have f1 : IntKind.i64.wrap (12 + v0) = a0 := by rw [ha]; exact IntWalk.i64_in _ ⟨by omega, by omega⟩
          have f2 : IntKind.i64.wrap (34 + a0) = 34 + a0 := IntWalk.i64_in _ ⟨by omega, by omega⟩
          clear ha
          go_wp2_with fail
          first
            | exact ⟨⟨.inr (.inl ⟨rfl, by rw [f1, f2]⟩), below_drew hbr1⟩, by simp [intOf]⟩
            | (go_roundw
               case rel => first | exact ⟨.inr (.inl ⟨rfl, by first | rfl | rw [f1, f2]⟩), below_drew hbr1⟩ | ((repeat apply Exists.intro); refine ⟨?_, rfl⟩; exact ⟨.inr (.inl ⟨rfl, by first | rfl | rw [f1, f2]⟩), below_drew hbr1⟩)
               case measure => simp [intOf])
        · have ha := HA0.out
          rw [if_neg hp] at ha
          subst ha
          go_wp2_with fail
          first
            | exact ⟨⟨.inr (.inl ⟨rfl, by simp⟩), hbr.alloc hbr.size _⟩, by simp [intOf]⟩
            | (go_roundw
               case rel => first | exact ⟨.inr (.inl ⟨rfl, by first | rfl | simp⟩), hbr.alloc hbr.size _⟩ | ((repeat apply Exists.intro); refine ⟨?_, rfl⟩; exact ⟨.inr (.inl ⟨rfl, by first | rfl | simp⟩), hbr.alloc hbr.size _⟩)
               case measure => simp [intOf])
      · by_cases hp : 0 < w1c
        · obtain ⟨g, hg⟩ : ∃ g, wr.heap.size = g := ⟨_, rfl⟩
          obtain ⟨W1, hW1⟩ : ∃ W1, wr.alloc (.cells #[.int .i64 w1f, .int .i64 w1c] 30) = W1 := ⟨_, rfl⟩
          have hBw : Box W1 g #[.int .i64 w1f, .int .i64 w1c] := hW1 ▸ hg ▸ Box.alloc_
          have hbr1 : Below w.heap.size w W1 := hW1 ▸ hbr.alloc hbr.size _
          have y1 : W1.cell? ⟨g, 1, none⟩ = some (.int .i64 w1c) := hBw.1 1
          go_wp2_with fail
          try rw [hg]
          try rw [hW1]
          clear hW1 hg
          have hS : (W1.drew.cell? ⟨g, 1, none⟩ = some (.int .i64 w1c)) ∧ True ∧ True := ⟨hBw.1 1, trivial, trivial⟩
          refine rgs_start (fun w' => (w'.cell? ⟨g, 1, none⟩ = some (.int .i64 w1c)) ∧ True ∧ True) (by kernel_rfl) ?_
          refine rgs_t (v := ?_) (some 18) 0 (by kernel_rfl) rfl rfl (by assumption) (.inl ⟨by rfl, fun w' hw => ?_⟩) ?_
          rotate_left
          · obtain ⟨q1, q2, q3⟩ := hw; go_simp <;> with_reducible rfl
          try simp only [Act.put, List.setIfInBounds_toArray, List.set_cons_zero, List.set_cons_succ]
          refine rgs_t (v := ?_) (some 19) 1 (by kernel_rfl) rfl rfl (by assumption) (.inl ⟨by rfl, fun w' hw => ?_⟩) ?_
          rotate_left
          · obtain ⟨q1, q2, q3⟩ := hw; go_simp <;> with_reducible rfl
          try simp only [Act.put, List.setIfInBounds_toArray, List.set_cons_zero, List.set_cons_succ]
          refine rgs_t (v := ?_) (some 20) 2 (by kernel_rfl) rfl rfl (by assumption) (.inl ⟨by rfl, fun w' hw => ?_⟩) ?_
          rotate_left
          · obtain ⟨q1, q2, q3⟩ := hw; go_simp <;> with_reducible rfl
          try simp only [Act.put, List.setIfInBounds_toArray, List.set_cons_zero, List.set_cons_succ]
          refine rgs_q (v := ?_) (some 21) 3 (by kernel_rfl) rfl rfl (by assumption) (by rfl) (fun w' hw K hK => ?_) ?_
          rotate_left
          · obtain ⟨q1, q2, q3⟩ := hw
            go_simp
            refine (sch_eq _ 12 (by decide) _).mono ?_
            rintro e w2 ⟨rfl, rfl⟩
            exact hK
          try simp only [Act.put, List.setIfInBounds_toArray, List.set_cons_zero, List.set_cons_succ]
          refine rgs_t (v := ?_) (some 22) 4 (by kernel_rfl) rfl rfl (by assumption) (.inl ⟨by rfl, fun w' hw => ?_⟩) ?_
          rotate_left
          · obtain ⟨q1, q2, q3⟩ := hw; go_simp <;> with_reducible rfl
          try simp only [Act.put, List.setIfInBounds_toArray, List.set_cons_zero, List.set_cons_succ]
          refine rgs_t (v := ?_) (some 23) 5 (by kernel_rfl) rfl rfl (by assumption) (.inl ⟨by rfl, fun w' hw => ?_⟩) ?_
          rotate_left
          · obtain ⟨q1, q2, q3⟩ := hw; go_simp <;> with_reducible rfl
          try simp only [Act.put, List.setIfInBounds_toArray, List.set_cons_zero, List.set_cons_succ]
          refine rgs_q (v := ?_) (some 24) 6 (by kernel_rfl) rfl rfl (by assumption) (by rfl) (fun w' hw K hK => ?_) ?_
          rotate_left
          · obtain ⟨q1, q2, q3⟩ := hw
            go_simp
            refine (HV1.out _).mono ?_
            rintro e w2 ⟨rfl, rfl⟩
            exact hK
          try simp only [Act.put, List.setIfInBounds_toArray, List.set_cons_zero, List.set_cons_succ]
          refine rgs_t (v := ?_) (some 25) 7 (by kernel_rfl) rfl rfl (by assumption) (.inl ⟨by rfl, fun w' hw => ?_⟩) ?_
          rotate_left
          · obtain ⟨q1, q2, q3⟩ := hw; go_simp <;> with_reducible rfl
          try simp only [Act.put, List.setIfInBounds_toArray, List.set_cons_zero, List.set_cons_succ]
          refine rgs_t (v := ?_) (some 26) 8 (by kernel_rfl) rfl rfl (by assumption) (.inl ⟨by rfl, fun w' hw => ?_⟩) ?_
          rotate_left
          · obtain ⟨q1, q2, q3⟩ := hw; go_simp <;> with_reducible rfl
          try simp only [Act.put, List.setIfInBounds_toArray, List.set_cons_zero, List.set_cons_succ]
          refine rgs_t (v := ?_) (some 3) 9 (by kernel_rfl) rfl rfl (by assumption) (.inl ⟨by rfl, fun w' hw => ?_⟩) ?_
          rotate_left
          · obtain ⟨q1, q2, q3⟩ := hw; go_simp <;> with_reducible rfl
          try simp only [Act.put, List.setIfInBounds_toArray, List.set_cons_zero, List.set_cons_succ]
          refine rgs_d (by kernel_rfl) ?_
          have ha := HA1.out
          rw [if_pos hp] at ha
          have f1 : IntKind.i64.wrap (12 + v1) = a1 := by rw [ha]; exact IntWalk.i64_in _ ⟨by omega, by omega⟩
          have f2 : IntKind.i64.wrap (34 + a0 + a1) = 34 + a0 + a1 := IntWalk.i64_in _ ⟨by omega, by omega⟩
          clear ha
          go_wp2_with fail
          first
            | exact ⟨⟨.inr (.inr (.inl ⟨rfl, by rw [f1, f2]⟩)), below_drew hbr1⟩, by simp [intOf]⟩
            | (go_roundw
               case rel => first | exact ⟨.inr (.inr (.inl ⟨rfl, by first | rfl | rw [f1, f2]⟩)), below_drew hbr1⟩ | ((repeat apply Exists.intro); refine ⟨?_, rfl⟩; exact ⟨.inr (.inr (.inl ⟨rfl, by first | rfl | rw [f1, f2]⟩)), below_drew hbr1⟩)
               case measure => simp [intOf])
        · have ha := HA1.out
          rw [if_neg hp] at ha
          subst ha
          go_wp2_with fail
          first
            | exact ⟨⟨.inr (.inr (.inl ⟨rfl, by simp⟩)), hbr.alloc hbr.size _⟩, by simp [intOf]⟩
            | (go_roundw
               case rel => first | exact ⟨.inr (.inr (.inl ⟨rfl, by first | rfl | simp⟩)), hbr.alloc hbr.size _⟩ | ((repeat apply Exists.intro); refine ⟨?_, rfl⟩; exact ⟨.inr (.inr (.inl ⟨rfl, by first | rfl | simp⟩)), hbr.alloc hbr.size _⟩)
               case measure => simp [intOf])
      · by_cases hp : 0 < w2c
        · obtain ⟨g, hg⟩ : ∃ g, wr.heap.size = g := ⟨_, rfl⟩
          obtain ⟨W1, hW1⟩ : ∃ W1, wr.alloc (.cells #[.int .i64 w2f, .int .i64 w2c] 30) = W1 := ⟨_, rfl⟩
          have hBw : Box W1 g #[.int .i64 w2f, .int .i64 w2c] := hW1 ▸ hg ▸ Box.alloc_
          have hbr1 : Below w.heap.size w W1 := hW1 ▸ hbr.alloc hbr.size _
          have y1 : W1.cell? ⟨g, 1, none⟩ = some (.int .i64 w2c) := hBw.1 1
          go_wp2_with fail
          try rw [hg]
          try rw [hW1]
          clear hW1 hg
          have hS : (W1.drew.cell? ⟨g, 1, none⟩ = some (.int .i64 w2c)) ∧ True ∧ True := ⟨hBw.1 1, trivial, trivial⟩
          refine rgs_start (fun w' => (w'.cell? ⟨g, 1, none⟩ = some (.int .i64 w2c)) ∧ True ∧ True) (by kernel_rfl) ?_
          refine rgs_t (v := ?_) (some 18) 0 (by kernel_rfl) rfl rfl (by assumption) (.inl ⟨by rfl, fun w' hw => ?_⟩) ?_
          rotate_left
          · obtain ⟨q1, q2, q3⟩ := hw; go_simp <;> with_reducible rfl
          try simp only [Act.put, List.setIfInBounds_toArray, List.set_cons_zero, List.set_cons_succ]
          refine rgs_t (v := ?_) (some 19) 1 (by kernel_rfl) rfl rfl (by assumption) (.inl ⟨by rfl, fun w' hw => ?_⟩) ?_
          rotate_left
          · obtain ⟨q1, q2, q3⟩ := hw; go_simp <;> with_reducible rfl
          try simp only [Act.put, List.setIfInBounds_toArray, List.set_cons_zero, List.set_cons_succ]
          refine rgs_t (v := ?_) (some 20) 2 (by kernel_rfl) rfl rfl (by assumption) (.inl ⟨by rfl, fun w' hw => ?_⟩) ?_
          rotate_left
          · obtain ⟨q1, q2, q3⟩ := hw; go_simp <;> with_reducible rfl
          try simp only [Act.put, List.setIfInBounds_toArray, List.set_cons_zero, List.set_cons_succ]
          refine rgs_q (v := ?_) (some 21) 3 (by kernel_rfl) rfl rfl (by assumption) (by rfl) (fun w' hw K hK => ?_) ?_
          rotate_left
          · obtain ⟨q1, q2, q3⟩ := hw
            go_simp
            refine (sch_eq _ 8 (by decide) _).mono ?_
            rintro e w2 ⟨rfl, rfl⟩
            exact hK
          try simp only [Act.put, List.setIfInBounds_toArray, List.set_cons_zero, List.set_cons_succ]
          refine rgs_t (v := ?_) (some 22) 4 (by kernel_rfl) rfl rfl (by assumption) (.inl ⟨by rfl, fun w' hw => ?_⟩) ?_
          rotate_left
          · obtain ⟨q1, q2, q3⟩ := hw; go_simp <;> with_reducible rfl
          try simp only [Act.put, List.setIfInBounds_toArray, List.set_cons_zero, List.set_cons_succ]
          refine rgs_t (v := ?_) (some 23) 5 (by kernel_rfl) rfl rfl (by assumption) (.inl ⟨by rfl, fun w' hw => ?_⟩) ?_
          rotate_left
          · obtain ⟨q1, q2, q3⟩ := hw; go_simp <;> with_reducible rfl
          try simp only [Act.put, List.setIfInBounds_toArray, List.set_cons_zero, List.set_cons_succ]
          refine rgs_q (v := ?_) (some 24) 6 (by kernel_rfl) rfl rfl (by assumption) (by rfl) (fun w' hw K hK => ?_) ?_
          rotate_left
          · obtain ⟨q1, q2, q3⟩ := hw
            go_simp
            refine (HV2.out _).mono ?_
            rintro e w2 ⟨rfl, rfl⟩
            exact hK
          try simp only [Act.put, List.setIfInBounds_toArray, List.set_cons_zero, List.set_cons_succ]
          refine rgs_t (v := ?_) (some 25) 7 (by kernel_rfl) rfl rfl (by assumption) (.inl ⟨by rfl, fun w' hw => ?_⟩) ?_
          rotate_left
          · obtain ⟨q1, q2, q3⟩ := hw; go_simp <;> with_reducible rfl
          try simp only [Act.put, List.setIfInBounds_toArray, List.set_cons_zero, List.set_cons_succ]
          refine rgs_t (v := ?_) (some 26) 8 (by kernel_rfl) rfl rfl (by assumption) (.inl ⟨by rfl, fun w' hw => ?_⟩) ?_
          rotate_left
          · obtain ⟨q1, q2, q3⟩ := hw; go_simp <;> with_reducible rfl
          try simp only [Act.put, List.setIfInBounds_toArray, List.set_cons_zero, List.set_cons_succ]
          refine rgs_t (v := ?_) (some 3) 9 (by kernel_rfl) rfl rfl (by assumption) (.inl ⟨by rfl, fun w' hw => ?_⟩) ?_
          rotate_left
          · obtain ⟨q1, q2, q3⟩ := hw; go_simp <;> with_reducible rfl
          try simp only [Act.put, List.setIfInBounds_toArray, List.set_cons_zero, List.set_cons_succ]
          refine rgs_d (by kernel_rfl) ?_
          have ha := HA2.out
          rw [if_pos hp] at ha
          have f1 : IntKind.i64.wrap (8 + v2) = a2 := by rw [ha]; exact IntWalk.i64_in _ ⟨by omega, by omega⟩
          have f2 : IntKind.i64.wrap (34 + a0 + a1 + a2) = 34 + a0 + a1 + a2 := IntWalk.i64_in _ ⟨by omega, by omega⟩
          clear ha
          go_wp2_with fail
          first
            | exact ⟨⟨.inr (.inr (.inr (.inl ⟨rfl, by rw [f1, f2]⟩))), below_drew hbr1⟩, by simp [intOf]⟩
            | (go_roundw
               case rel => first | exact ⟨.inr (.inr (.inr (.inl ⟨rfl, by first | rfl | rw [f1, f2]⟩))), below_drew hbr1⟩ | ((repeat apply Exists.intro); refine ⟨?_, rfl⟩; exact ⟨.inr (.inr (.inr (.inl ⟨rfl, by first | rfl | rw [f1, f2]⟩))), below_drew hbr1⟩)
               case measure => simp [intOf])
        · have ha := HA2.out
          rw [if_neg hp] at ha
          subst ha
          go_wp2_with fail
          first
            | exact ⟨⟨.inr (.inr (.inr (.inl ⟨rfl, by simp⟩))), hbr.alloc hbr.size _⟩, by simp [intOf]⟩
            | (go_roundw
               case rel => first | exact ⟨.inr (.inr (.inr (.inl ⟨rfl, by first | rfl | simp⟩))), hbr.alloc hbr.size _⟩ | ((repeat apply Exists.intro); refine ⟨?_, rfl⟩; exact ⟨.inr (.inr (.inr (.inl ⟨rfl, by first | rfl | simp⟩))), hbr.alloc hbr.size _⟩)
               case measure => simp [intOf])
      · by_cases hp : 0 < w3c
        · obtain ⟨g, hg⟩ : ∃ g, wr.heap.size = g := ⟨_, rfl⟩
          obtain ⟨W1, hW1⟩ : ∃ W1, wr.alloc (.cells #[.int .i64 w3f, .int .i64 w3c] 30) = W1 := ⟨_, rfl⟩
          have hBw : Box W1 g #[.int .i64 w3f, .int .i64 w3c] := hW1 ▸ hg ▸ Box.alloc_
          have hbr1 : Below w.heap.size w W1 := hW1 ▸ hbr.alloc hbr.size _
          have y1 : W1.cell? ⟨g, 1, none⟩ = some (.int .i64 w3c) := hBw.1 1
          go_wp2_with fail
          try rw [hg]
          try rw [hW1]
          clear hW1 hg
          have hS : (W1.drew.cell? ⟨g, 1, none⟩ = some (.int .i64 w3c)) ∧ True ∧ True := ⟨hBw.1 1, trivial, trivial⟩
          refine rgs_start (fun w' => (w'.cell? ⟨g, 1, none⟩ = some (.int .i64 w3c)) ∧ True ∧ True) (by kernel_rfl) ?_
          refine rgs_t (v := ?_) (some 18) 0 (by kernel_rfl) rfl rfl (by assumption) (.inl ⟨by rfl, fun w' hw => ?_⟩) ?_
          rotate_left
          · obtain ⟨q1, q2, q3⟩ := hw; go_simp <;> with_reducible rfl
          try simp only [Act.put, List.setIfInBounds_toArray, List.set_cons_zero, List.set_cons_succ]
          refine rgs_t (v := ?_) (some 19) 1 (by kernel_rfl) rfl rfl (by assumption) (.inl ⟨by rfl, fun w' hw => ?_⟩) ?_
          rotate_left
          · obtain ⟨q1, q2, q3⟩ := hw; go_simp <;> with_reducible rfl
          try simp only [Act.put, List.setIfInBounds_toArray, List.set_cons_zero, List.set_cons_succ]
          refine rgs_t (v := ?_) (some 20) 2 (by kernel_rfl) rfl rfl (by assumption) (.inl ⟨by rfl, fun w' hw => ?_⟩) ?_
          rotate_left
          · obtain ⟨q1, q2, q3⟩ := hw; go_simp <;> with_reducible rfl
          try simp only [Act.put, List.setIfInBounds_toArray, List.set_cons_zero, List.set_cons_succ]
          refine rgs_q (v := ?_) (some 21) 3 (by kernel_rfl) rfl rfl (by assumption) (by rfl) (fun w' hw K hK => ?_) ?_
          rotate_left
          · obtain ⟨q1, q2, q3⟩ := hw
            go_simp
            refine (sch_eq _ 8 (by decide) _).mono ?_
            rintro e w2 ⟨rfl, rfl⟩
            exact hK
          try simp only [Act.put, List.setIfInBounds_toArray, List.set_cons_zero, List.set_cons_succ]
          refine rgs_t (v := ?_) (some 22) 4 (by kernel_rfl) rfl rfl (by assumption) (.inl ⟨by rfl, fun w' hw => ?_⟩) ?_
          rotate_left
          · obtain ⟨q1, q2, q3⟩ := hw; go_simp <;> with_reducible rfl
          try simp only [Act.put, List.setIfInBounds_toArray, List.set_cons_zero, List.set_cons_succ]
          refine rgs_t (v := ?_) (some 23) 5 (by kernel_rfl) rfl rfl (by assumption) (.inl ⟨by rfl, fun w' hw => ?_⟩) ?_
          rotate_left
          · obtain ⟨q1, q2, q3⟩ := hw; go_simp <;> with_reducible rfl
          try simp only [Act.put, List.setIfInBounds_toArray, List.set_cons_zero, List.set_cons_succ]
          refine rgs_q (v := ?_) (some 24) 6 (by kernel_rfl) rfl rfl (by assumption) (by rfl) (fun w' hw K hK => ?_) ?_
          rotate_left
          · obtain ⟨q1, q2, q3⟩ := hw
            go_simp
            refine (HV3.out _).mono ?_
            rintro e w2 ⟨rfl, rfl⟩
            exact hK
          try simp only [Act.put, List.setIfInBounds_toArray, List.set_cons_zero, List.set_cons_succ]
          refine rgs_t (v := ?_) (some 25) 7 (by kernel_rfl) rfl rfl (by assumption) (.inl ⟨by rfl, fun w' hw => ?_⟩) ?_
          rotate_left
          · obtain ⟨q1, q2, q3⟩ := hw; go_simp <;> with_reducible rfl
          try simp only [Act.put, List.setIfInBounds_toArray, List.set_cons_zero, List.set_cons_succ]
          refine rgs_t (v := ?_) (some 26) 8 (by kernel_rfl) rfl rfl (by assumption) (.inl ⟨by rfl, fun w' hw => ?_⟩) ?_
          rotate_left
          · obtain ⟨q1, q2, q3⟩ := hw; go_simp <;> with_reducible rfl
          try simp only [Act.put, List.setIfInBounds_toArray, List.set_cons_zero, List.set_cons_succ]
          refine rgs_t (v := ?_) (some 3) 9 (by kernel_rfl) rfl rfl (by assumption) (.inl ⟨by rfl, fun w' hw => ?_⟩) ?_
          rotate_left
          · obtain ⟨q1, q2, q3⟩ := hw; go_simp <;> with_reducible rfl
          try simp only [Act.put, List.setIfInBounds_toArray, List.set_cons_zero, List.set_cons_succ]
          refine rgs_d (by kernel_rfl) ?_
          have ha := HA3.out
          rw [if_pos hp] at ha
          have f1 : IntKind.i64.wrap (8 + v3) = a3 := by rw [ha]; exact IntWalk.i64_in _ ⟨by omega, by omega⟩
          have f2 : IntKind.i64.wrap (34 + a0 + a1 + a2 + a3) = 34 + a0 + a1 + a2 + a3 := IntWalk.i64_in _ ⟨by omega, by omega⟩
          clear ha
          go_wp2_with fail
          first
            | exact ⟨⟨.inr (.inr (.inr (.inr (⟨rfl, by rw [f1, f2]⟩)))), below_drew hbr1⟩, by simp [intOf]⟩
            | (go_roundw
               case rel => first | exact ⟨.inr (.inr (.inr (.inr (⟨rfl, by first | rfl | rw [f1, f2]⟩)))), below_drew hbr1⟩ | ((repeat apply Exists.intro); refine ⟨?_, rfl⟩; exact ⟨.inr (.inr (.inr (.inr (⟨rfl, by first | rfl | rw [f1, f2]⟩)))), below_drew hbr1⟩)
               case measure => simp [intOf])
        · have ha := HA3.out
          rw [if_neg hp] at ha
          subst ha
          go_wp2_with fail
          first
            | exact ⟨⟨.inr (.inr (.inr (.inr (⟨rfl, by simp⟩)))), hbr.alloc hbr.size _⟩, by simp [intOf]⟩
            | (go_roundw
               case rel => first | exact ⟨.inr (.inr (.inr (.inr (⟨rfl, by first | rfl | simp⟩)))), hbr.alloc hbr.size _⟩ | ((repeat apply Exists.intro); refine ⟨?_, rfl⟩; exact ⟨.inr (.inr (.inr (.inr (⟨rfl, by first | rfl | simp⟩)))), hbr.alloc hbr.size _⟩)
               case measure => simp [intOf])
      · go_wp2
        go_ret
        exact ⟨by rw [← HZ.out]; rfl, hbr⟩
  · rw [if_neg h0] at hz2
    subst hz2
    have hd : (k != 0) = true := by simpa using h0
    go_enter Try.func18, Try.ntmps18
    go_wp2_with fail
    refine (HC.out _ hbx).mono ?_
    rintro e w1 ⟨rfl, hb1⟩
    go_wp2
    go_ret
    exact ⟨rfl, hbx.trans (hb1.mono hbx.size)⟩

set_option maxRecDepth 100000 in
set_option maxHeartbeats 2000000 in
theorem runit_any (x : Cf) (A : Option Addr) (n c B : Nat) (z : Int) (w : World) (hr : Rd w B 2 A n (stCells x.ss)) (hl : x.ss.length = n) (hn : n ≤ maxLen) (hz : unitZ x = z) :
    Calls Try.prog 20 #[cfV A n c x] w fun e w' => e = .returned (.int .i64 z) ∧ Below w.heap.size w w' := by
  have hr := hr.fits (by decide)
  obtain ⟨k, hk⟩ : ∃ k, checkZ x = k := ⟨_, rfl⟩
  have HC := Lib.hid (fun (W : World) (h : Below w.heap.size w W) => rcheck_any x A n c _ k W (hr.below h (Nat.le_refl _)) hl hn hk)
  have hz2 : (if k = 0 then 34 + addZ 12 x.w0c + addZ 12 x.w1c + addZ 8 x.w2c + addZ 8 x.w3c else 0) = z := by rw [← hz, unitZ, hk]
  clear hr hk hl hz
  obtain ⟨ss, fi, la, re, ti, de, w0f, w0c, w1f, w1c, w2f, w2c, w3f, w3c, ev, st⟩ := x
  dsimp only at hz2
  have hbx := (Below.refl w.heap.size w).alloc (Nat.le_refl _) (.cells #[.slice A n c, .int .i64 fi, .int .i64 la, .int .i64 re, .int .i64 ti, .int .i64 de, .int .i64 w0f, .int .i64 w0c, .int .i64 w1f, .int .i64 w1c, .int .i64 w2f, .int .i64 w2c, .int .i64 w3f, .int .i64 w3c, .int .i64 ev, .int .i64 st] 33)
  by_cases h0 : k = 0
  · rw [if_pos h0] at hz2
    subst h0
    obtain ⟨v0, hv0⟩ : ∃ v, winZ w0c = v := ⟨_, rfl⟩
    have hb0 := win_bd w0c
    have HV0 := Lib.hid (fun w => rwin_eq w0c v0 hv0 w)
    obtain ⟨a0, ha0⟩ : ∃ a, addZ 12 w0c = a := ⟨_, rfl⟩
    have hc0 := add_bd 12 w0c (by omega) (by omega)
    have HA0 := Lib.hid (show (if 0 < w0c then 12 + v0 else 0) = a0 by rw [← ha0, addZ, hv0])
    rw [hv0] at hb0
    rw [ha0] at hc0
    obtain ⟨hb00, hb01⟩ := hb0
    obtain ⟨hc00, hc01⟩ := hc0
    obtain ⟨v1, hv1⟩ : ∃ v, winZ w1c = v := ⟨_, rfl⟩
    have hb1 := win_bd w1c
    have HV1 := Lib.hid (fun w => rwin_eq w1c v1 hv1 w)
    obtain ⟨a1, ha1⟩ : ∃ a, addZ 12 w1c = a := ⟨_, rfl⟩
    have hc1 := add_bd 12 w1c (by omega) (by omega)
    have HA1 := Lib.hid (show (if 0 < w1c then 12 + v1 else 0) = a1 by rw [← ha1, addZ, hv1])
    rw [hv1] at hb1
    rw [ha1] at hc1
    obtain ⟨hb10, hb11⟩ := hb1
    obtain ⟨hc10, hc11⟩ := hc1
    obtain ⟨v2, hv2⟩ : ∃ v, winZ w2c = v := ⟨_, rfl⟩
    have hb2 := win_bd w2c
    have HV2 := Lib.hid (fun w => rwin_eq w2c v2 hv2 w)
    obtain ⟨a2, ha2⟩ : ∃ a, addZ 8 w2c = a := ⟨_, rfl⟩
    have hc2 := add_bd 8 w2c (by omega) (by omega)
    have HA2 := Lib.hid (show (if 0 < w2c then 8 + v2 else 0) = a2 by rw [← ha2, addZ, hv2])
    rw [hv2] at hb2
    rw [ha2] at hc2
    obtain ⟨hb20, hb21⟩ := hb2
    obtain ⟨hc20, hc21⟩ := hc2
    obtain ⟨v3, hv3⟩ : ∃ v, winZ w3c = v := ⟨_, rfl⟩
    have hb3 := win_bd w3c
    have HV3 := Lib.hid (fun w => rwin_eq w3c v3 hv3 w)
    obtain ⟨a3, ha3⟩ : ∃ a, addZ 8 w3c = a := ⟨_, rfl⟩
    have hc3 := add_bd 8 w3c (by omega) (by omega)
    have HA3 := Lib.hid (show (if 0 < w3c then 8 + v3 else 0) = a3 by rw [← ha3, addZ, hv3])
    rw [hv3] at hb3
    rw [ha3] at hc3
    obtain ⟨hb30, hb31⟩ := hb3
    obtain ⟨hc30, hc31⟩ := hc3
    rw [ha0, ha1, ha2, ha3] at hz2
    have HZ := Lib.hid hz2
    clear hz2 hv0 hv1 hv2 hv3 ha0 ha1 ha2 ha3
    go_enter Try.func20, Try.ntmps20
    go_wp2_with fail
    refine (HC.out _ hbx).mono ?_
    rintro e w1 ⟨rfl, hb1⟩
    have HB1 := Lib.hid (Box.new hb1)
    have hbw := hbx.trans (hb1.mono hbx.size)
    obtain ⟨q1, z1, l1⟩ := HB1.out
    clear hb1 hbx HC
    go_wp2_with fail
    go_loopw [3, 4] (fun s i wr => ((i = .int .i64 0 ∧ s = .int .i64 (34)) ∨ (i = .int .i64 1 ∧ s = .int .i64 (34 + a0)) ∨ (i = .int .i64 2 ∧ s = .int .i64 (34 + a0 + a1)) ∨ (i = .int .i64 3 ∧ s = .int .i64 (34 + a0 + a1 + a2)) ∨ (i = .int .i64 4 ∧ s = .int .i64 (34 + a0 + a1 + a2 + a3))) ∧ Below w1.heap.size w1 wr) (fun _ i _ => 4 - (intOf i).toNat)
    case atStart => exact ⟨.inl ⟨rfl, rfl⟩, Below.refl _ _⟩
    case round =>
      obtain ⟨hrel, hbr⟩ := hrel
      have HB2 := Lib.hid (HB1.out.below hbr)
      obtain ⟨q2, z2, l2⟩ := HB2.out
      clear q1 z1 l1
      rcases hrel with ⟨rfl, rfl⟩ | ⟨rfl, rfl⟩ | ⟨rfl, rfl⟩ | ⟨rfl, rfl⟩ | ⟨rfl, rfl⟩
      · by_cases hp : 0 < w0c
        · go_wp2_with fail
          have hS : (∀ i, wr.drew.cell? ⟨w.heap.size, i, none⟩ = (#[.slice A n c, .int .i64 fi, .int .i64 la, .int .i64 re, .int .i64 ti, .int .i64 de, .int .i64 w0f, .int .i64 w0c, .int .i64 w1f, .int .i64 w1c, .int .i64 w2f, .int .i64 w2c, .int .i64 w3f, .int .i64 w3c, .int .i64 ev, .int .i64 st] : Array Value)[i]?) ∧ True ∧ True := ⟨q2, trivial, trivial⟩
          refine rgs_start (fun w' => (∀ i, w'.cell? ⟨w.heap.size, i, none⟩ = (#[.slice A n c, .int .i64 fi, .int .i64 la, .int .i64 re, .int .i64 ti, .int .i64 de, .int .i64 w0f, .int .i64 w0c, .int .i64 w1f, .int .i64 w1c, .int .i64 w2f, .int .i64 w2c, .int .i64 w3f, .int .i64 w3c, .int .i64 ev, .int .i64 st] : Array Value)[i]?) ∧ True ∧ True) (by kernel_rfl) ?_
          refine rgs_t (v := ?_) (some 18) 0 (by kernel_rfl) rfl rfl (by assumption) (.inl ⟨by rfl, fun w' hw => ?_⟩) ?_
          rotate_left
          · obtain ⟨q1, q2, q3⟩ := hw; go_simp <;> with_reducible rfl
          try simp only [Act.put, List.setIfInBounds_toArray, List.set_cons_zero, List.set_cons_succ]
          refine rgs_t (v := ?_) (some 19) 1 (by kernel_rfl) rfl rfl (by assumption) (.inl ⟨by rfl, fun w' hw => ?_⟩) ?_
          rotate_left
          · obtain ⟨q1, q2, q3⟩ := hw; go_simp <;> with_reducible rfl
          try simp only [Act.put, List.setIfInBounds_toArray, List.set_cons_zero, List.set_cons_succ]
          refine rgs_t (v := ?_) (some 20) 2 (by kernel_rfl) rfl rfl (by assumption) (.inl ⟨by rfl, fun w' hw => ?_⟩) ?_
          rotate_left
          · obtain ⟨q1, q2, q3⟩ := hw; go_simp <;> with_reducible rfl
          try simp only [Act.put, List.setIfInBounds_toArray, List.set_cons_zero, List.set_cons_succ]
          refine rgs_q (v := ?_) (some 21) 3 (by kernel_rfl) rfl rfl (by assumption) (by rfl) (fun w' hw K hK => ?_) ?_
          rotate_left
          · obtain ⟨q1, q2, q3⟩ := hw
            go_simp
            refine (rsch_eq _ 12 (by decide) _).mono ?_
            rintro e w2 ⟨rfl, rfl⟩
            exact hK
          try simp only [Act.put, List.setIfInBounds_toArray, List.set_cons_zero, List.set_cons_succ]
          refine rgs_t (v := ?_) (some 22) 4 (by kernel_rfl) rfl rfl (by assumption) (.inl ⟨by rfl, fun w' hw => ?_⟩) ?_
          rotate_left
          · obtain ⟨q1, q2, q3⟩ := hw; go_simp <;> with_reducible rfl
          try simp only [Act.put, List.setIfInBounds_toArray, List.set_cons_zero, List.set_cons_succ]
          refine rgs_t (v := ?_) (some 23) 5 (by kernel_rfl) rfl rfl (by assumption) (.inl ⟨by rfl, fun w' hw => ?_⟩) ?_
          rotate_left
          · obtain ⟨q1, q2, q3⟩ := hw; go_simp <;> with_reducible rfl
          try simp only [Act.put, List.setIfInBounds_toArray, List.set_cons_zero, List.set_cons_succ]
          refine rgs_t (v := ?_) (some 24) 6 (by kernel_rfl) rfl rfl (by assumption) (.inl ⟨by rfl, fun w' hw => ?_⟩) ?_
          rotate_left
          · obtain ⟨q1, q2, q3⟩ := hw; go_simp <;> with_reducible rfl
          try simp only [Act.put, List.setIfInBounds_toArray, List.set_cons_zero, List.set_cons_succ]
          refine rgs_t (v := ?_) (some 25) 7 (by kernel_rfl) rfl rfl (by assumption) (.inl ⟨by rfl, fun w' hw => ?_⟩) ?_
          rotate_left
          · obtain ⟨q1, q2, q3⟩ := hw; go_simp <;> with_reducible rfl
          try simp only [Act.put, List.setIfInBounds_toArray, List.set_cons_zero, List.set_cons_succ]
          refine rgs_t (v := ?_) (some 26) 8 (by kernel_rfl) rfl rfl (by assumption) (.inl ⟨by rfl, fun w' hw => ?_⟩) ?_
          rotate_left
          · obtain ⟨q1, q2, q3⟩ := hw; go_simp <;> with_reducible rfl
          try simp only [Act.put, List.setIfInBounds_toArray, List.set_cons_zero, List.set_cons_succ]
          refine rgs_q (v := ?_) (some 27) 9 (by kernel_rfl) rfl rfl (by assumption) (by rfl) (fun w' hw K hK => ?_) ?_
          rotate_left
          · obtain ⟨q1, q2, q3⟩ := hw
            go_simp
            refine (HV0.out _).mono ?_
            rintro e w2 ⟨rfl, rfl⟩
            exact hK
          try simp only [Act.put, List.setIfInBounds_toArray, List.set_cons_zero, List.set_cons_succ]
          refine rgs_t (v := ?_) (some 28) 10 (by kernel_rfl) rfl rfl (by assumption) (.inl ⟨by rfl, fun w' hw => ?_⟩) ?_
          rotate_left
          · obtain ⟨q1, q2, q3⟩ := hw; go_simp <;> with_reducible rfl
          try simp only [Act.put, List.setIfInBounds_toArray, List.set_cons_zero, List.set_cons_succ]
          refine rgs_t (v := ?_) (some 29) 11 (by kernel_rfl) rfl rfl (by assumption) (.inl ⟨by rfl, fun w' hw => ?_⟩) ?_
          rotate_left
          · obtain ⟨q1, q2, q3⟩ := hw; go_simp <;> with_reducible rfl
          try simp only [Act.put, List.setIfInBounds_toArray, List.set_cons_zero, List.set_cons_succ]
          refine rgs_t (v := ?_) (some 3) 12 (by kernel_rfl) rfl rfl (by assumption) (.inl ⟨by rfl, fun w' hw => ?_⟩) ?_
          rotate_left
          · obtain ⟨q1, q2, q3⟩ := hw; go_simp <;> with_reducible rfl
          try simp only [Act.put, List.setIfInBounds_toArray, List.set_cons_zero, List.set_cons_succ]
          refine rgs_d (by kernel_rfl) ?_
          have ha := HA0.out
          rw [if_pos hp] at ha
          have f1 : IntKind.i64.wrap (12 + v0) = a0 := by rw [ha]; exact IntWalk.i64_in _ ⟨by omega, by omega⟩
          have f2 : IntKind.i64.wrap (34 + a0) = 34 + a0 := IntWalk.i64_in _ ⟨by omega, by omega⟩
          clear ha
          go_wp2_with fail
          first
            | exact ⟨⟨.inr (.inl ⟨rfl, by rw [f1, f2]⟩), below_drew hbr⟩, by simp [intOf]⟩
            | (go_roundw
               case rel => first | exact ⟨.inr (.inl ⟨rfl, by first | rfl | rw [f1, f2]⟩), below_drew hbr⟩ | ((repeat apply Exists.intro); refine ⟨?_, rfl⟩; exact ⟨.inr (.inl ⟨rfl, by first | rfl | rw [f1, f2]⟩), below_drew hbr⟩)
               case measure => simp [intOf])
        · have ha := HA0.out
          rw [if_neg hp] at ha
          subst ha
          go_wp2_with fail
          first
            | exact ⟨⟨.inr (.inl ⟨rfl, by simp⟩), hbr⟩, by simp [intOf]⟩
            | (go_roundw
               case rel => first | exact ⟨.inr (.inl ⟨rfl, by first | rfl | simp⟩), hbr⟩ | ((repeat apply Exists.intro); refine ⟨?_, rfl⟩; exact ⟨.inr (.inl ⟨rfl, by first | rfl | simp⟩), hbr⟩)
               case measure => simp [intOf])
      · by_cases hp : 0 < w1c
        · go_wp2_with fail
          have hS : (∀ i, wr.drew.cell? ⟨w.heap.size, i, none⟩ = (#[.slice A n c, .int .i64 fi, .int .i64 la, .int .i64 re, .int .i64 ti, .int .i64 de, .int .i64 w0f, .int .i64 w0c, .int .i64 w1f, .int .i64 w1c, .int .i64 w2f, .int .i64 w2c, .int .i64 w3f, .int .i64 w3c, .int .i64 ev, .int .i64 st] : Array Value)[i]?) ∧ True ∧ True := ⟨q2, trivial, trivial⟩
          refine rgs_start (fun w' => (∀ i, w'.cell? ⟨w.heap.size, i, none⟩ = (#[.slice A n c, .int .i64 fi, .int .i64 la, .int .i64 re, .int .i64 ti, .int .i64 de, .int .i64 w0f, .int .i64 w0c, .int .i64 w1f, .int .i64 w1c, .int .i64 w2f, .int .i64 w2c, .int .i64 w3f, .int .i64 w3c, .int .i64 ev, .int .i64 st] : Array Value)[i]?) ∧ True ∧ True) (by kernel_rfl) ?_
          refine rgs_t (v := ?_) (some 18) 0 (by kernel_rfl) rfl rfl (by assumption) (.inl ⟨by rfl, fun w' hw => ?_⟩) ?_
          rotate_left
          · obtain ⟨q1, q2, q3⟩ := hw; go_simp <;> with_reducible rfl
          try simp only [Act.put, List.setIfInBounds_toArray, List.set_cons_zero, List.set_cons_succ]
          refine rgs_t (v := ?_) (some 19) 1 (by kernel_rfl) rfl rfl (by assumption) (.inl ⟨by rfl, fun w' hw => ?_⟩) ?_
          rotate_left
          · obtain ⟨q1, q2, q3⟩ := hw; go_simp <;> with_reducible rfl
          try simp only [Act.put, List.setIfInBounds_toArray, List.set_cons_zero, List.set_cons_succ]
          refine rgs_t (v := ?_) (some 20) 2 (by kernel_rfl) rfl rfl (by assumption) (.inl ⟨by rfl, fun w' hw => ?_⟩) ?_
          rotate_left
          · obtain ⟨q1, q2, q3⟩ := hw; go_simp <;> with_reducible rfl
          try simp only [Act.put, List.setIfInBounds_toArray, List.set_cons_zero, List.set_cons_succ]
          refine rgs_q (v := ?_) (some 21) 3 (by kernel_rfl) rfl rfl (by assumption) (by rfl) (fun w' hw K hK => ?_) ?_
          rotate_left
          · obtain ⟨q1, q2, q3⟩ := hw
            go_simp
            refine (rsch_eq _ 12 (by decide) _).mono ?_
            rintro e w2 ⟨rfl, rfl⟩
            exact hK
          try simp only [Act.put, List.setIfInBounds_toArray, List.set_cons_zero, List.set_cons_succ]
          refine rgs_t (v := ?_) (some 22) 4 (by kernel_rfl) rfl rfl (by assumption) (.inl ⟨by rfl, fun w' hw => ?_⟩) ?_
          rotate_left
          · obtain ⟨q1, q2, q3⟩ := hw; go_simp <;> with_reducible rfl
          try simp only [Act.put, List.setIfInBounds_toArray, List.set_cons_zero, List.set_cons_succ]
          refine rgs_t (v := ?_) (some 23) 5 (by kernel_rfl) rfl rfl (by assumption) (.inl ⟨by rfl, fun w' hw => ?_⟩) ?_
          rotate_left
          · obtain ⟨q1, q2, q3⟩ := hw; go_simp <;> with_reducible rfl
          try simp only [Act.put, List.setIfInBounds_toArray, List.set_cons_zero, List.set_cons_succ]
          refine rgs_t (v := ?_) (some 24) 6 (by kernel_rfl) rfl rfl (by assumption) (.inl ⟨by rfl, fun w' hw => ?_⟩) ?_
          rotate_left
          · obtain ⟨q1, q2, q3⟩ := hw; go_simp <;> with_reducible rfl
          try simp only [Act.put, List.setIfInBounds_toArray, List.set_cons_zero, List.set_cons_succ]
          refine rgs_t (v := ?_) (some 25) 7 (by kernel_rfl) rfl rfl (by assumption) (.inl ⟨by rfl, fun w' hw => ?_⟩) ?_
          rotate_left
          · obtain ⟨q1, q2, q3⟩ := hw; go_simp <;> with_reducible rfl
          try simp only [Act.put, List.setIfInBounds_toArray, List.set_cons_zero, List.set_cons_succ]
          refine rgs_t (v := ?_) (some 26) 8 (by kernel_rfl) rfl rfl (by assumption) (.inl ⟨by rfl, fun w' hw => ?_⟩) ?_
          rotate_left
          · obtain ⟨q1, q2, q3⟩ := hw; go_simp <;> with_reducible rfl
          try simp only [Act.put, List.setIfInBounds_toArray, List.set_cons_zero, List.set_cons_succ]
          refine rgs_q (v := ?_) (some 27) 9 (by kernel_rfl) rfl rfl (by assumption) (by rfl) (fun w' hw K hK => ?_) ?_
          rotate_left
          · obtain ⟨q1, q2, q3⟩ := hw
            go_simp
            refine (HV1.out _).mono ?_
            rintro e w2 ⟨rfl, rfl⟩
            exact hK
          try simp only [Act.put, List.setIfInBounds_toArray, List.set_cons_zero, List.set_cons_succ]
          refine rgs_t (v := ?_) (some 28) 10 (by kernel_rfl) rfl rfl (by assumption) (.inl ⟨by rfl, fun w' hw => ?_⟩) ?_
          rotate_left
          · obtain ⟨q1, q2, q3⟩ := hw; go_simp <;> with_reducible rfl
          try simp only [Act.put, List.setIfInBounds_toArray, List.set_cons_zero, List.set_cons_succ]
          refine rgs_t (v := ?_) (some 29) 11 (by kernel_rfl) rfl rfl (by assumption) (.inl ⟨by rfl, fun w' hw => ?_⟩) ?_
          rotate_left
          · obtain ⟨q1, q2, q3⟩ := hw; go_simp <;> with_reducible rfl
          try simp only [Act.put, List.setIfInBounds_toArray, List.set_cons_zero, List.set_cons_succ]
          refine rgs_t (v := ?_) (some 3) 12 (by kernel_rfl) rfl rfl (by assumption) (.inl ⟨by rfl, fun w' hw => ?_⟩) ?_
          rotate_left
          · obtain ⟨q1, q2, q3⟩ := hw; go_simp <;> with_reducible rfl
          try simp only [Act.put, List.setIfInBounds_toArray, List.set_cons_zero, List.set_cons_succ]
          refine rgs_d (by kernel_rfl) ?_
          have ha := HA1.out
          rw [if_pos hp] at ha
          have f1 : IntKind.i64.wrap (12 + v1) = a1 := by rw [ha]; exact IntWalk.i64_in _ ⟨by omega, by omega⟩
          have f2 : IntKind.i64.wrap (34 + a0 + a1) = 34 + a0 + a1 := IntWalk.i64_in _ ⟨by omega, by omega⟩
          clear ha
          go_wp2_with fail
          first
            | exact ⟨⟨.inr (.inr (.inl ⟨rfl, by rw [f1, f2]⟩)), below_drew hbr⟩, by simp [intOf]⟩
            | (go_roundw
               case rel => first | exact ⟨.inr (.inr (.inl ⟨rfl, by first | rfl | rw [f1, f2]⟩)), below_drew hbr⟩ | ((repeat apply Exists.intro); refine ⟨?_, rfl⟩; exact ⟨.inr (.inr (.inl ⟨rfl, by first | rfl | rw [f1, f2]⟩)), below_drew hbr⟩)
               case measure => simp [intOf])
        · have ha := HA1.out
          rw [if_neg hp] at ha
          subst ha
          go_wp2_with fail
          first
            | exact ⟨⟨.inr (.inr (.inl ⟨rfl, by simp⟩)), hbr⟩, by simp [intOf]⟩
            | (go_roundw
               case rel => first | exact ⟨.inr (.inr (.inl ⟨rfl, by first | rfl | simp⟩)), hbr⟩ | ((repeat apply Exists.intro); refine ⟨?_, rfl⟩; exact ⟨.inr (.inr (.inl ⟨rfl, by first | rfl | simp⟩)), hbr⟩)
               case measure => simp [intOf])
      · by_cases hp : 0 < w2c
        · go_wp2_with fail
          have hS : (∀ i, wr.drew.cell? ⟨w.heap.size, i, none⟩ = (#[.slice A n c, .int .i64 fi, .int .i64 la, .int .i64 re, .int .i64 ti, .int .i64 de, .int .i64 w0f, .int .i64 w0c, .int .i64 w1f, .int .i64 w1c, .int .i64 w2f, .int .i64 w2c, .int .i64 w3f, .int .i64 w3c, .int .i64 ev, .int .i64 st] : Array Value)[i]?) ∧ True ∧ True := ⟨q2, trivial, trivial⟩
          refine rgs_start (fun w' => (∀ i, w'.cell? ⟨w.heap.size, i, none⟩ = (#[.slice A n c, .int .i64 fi, .int .i64 la, .int .i64 re, .int .i64 ti, .int .i64 de, .int .i64 w0f, .int .i64 w0c, .int .i64 w1f, .int .i64 w1c, .int .i64 w2f, .int .i64 w2c, .int .i64 w3f, .int .i64 w3c, .int .i64 ev, .int .i64 st] : Array Value)[i]?) ∧ True ∧ True) (by kernel_rfl) ?_
          refine rgs_t (v := ?_) (some 18) 0 (by kernel_rfl) rfl rfl (by assumption) (.inl ⟨by rfl, fun w' hw => ?_⟩) ?_
          rotate_left
          · obtain ⟨q1, q2, q3⟩ := hw; go_simp <;> with_reducible rfl
          try simp only [Act.put, List.setIfInBounds_toArray, List.set_cons_zero, List.set_cons_succ]
          refine rgs_t (v := ?_) (some 19) 1 (by kernel_rfl) rfl rfl (by assumption) (.inl ⟨by rfl, fun w' hw => ?_⟩) ?_
          rotate_left
          · obtain ⟨q1, q2, q3⟩ := hw; go_simp <;> with_reducible rfl
          try simp only [Act.put, List.setIfInBounds_toArray, List.set_cons_zero, List.set_cons_succ]
          refine rgs_t (v := ?_) (some 20) 2 (by kernel_rfl) rfl rfl (by assumption) (.inl ⟨by rfl, fun w' hw => ?_⟩) ?_
          rotate_left
          · obtain ⟨q1, q2, q3⟩ := hw; go_simp <;> with_reducible rfl
          try simp only [Act.put, List.setIfInBounds_toArray, List.set_cons_zero, List.set_cons_succ]
          refine rgs_q (v := ?_) (some 21) 3 (by kernel_rfl) rfl rfl (by assumption) (by rfl) (fun w' hw K hK => ?_) ?_
          rotate_left
          · obtain ⟨q1, q2, q3⟩ := hw
            go_simp
            refine (rsch_eq _ 8 (by decide) _).mono ?_
            rintro e w2 ⟨rfl, rfl⟩
            exact hK
          try simp only [Act.put, List.setIfInBounds_toArray, List.set_cons_zero, List.set_cons_succ]
          refine rgs_t (v := ?_) (some 22) 4 (by kernel_rfl) rfl rfl (by assumption) (.inl ⟨by rfl, fun w' hw => ?_⟩) ?_
          rotate_left
          · obtain ⟨q1, q2, q3⟩ := hw; go_simp <;> with_reducible rfl
          try simp only [Act.put, List.setIfInBounds_toArray, List.set_cons_zero, List.set_cons_succ]
          refine rgs_t (v := ?_) (some 23) 5 (by kernel_rfl) rfl rfl (by assumption) (.inl ⟨by rfl, fun w' hw => ?_⟩) ?_
          rotate_left
          · obtain ⟨q1, q2, q3⟩ := hw; go_simp <;> with_reducible rfl
          try simp only [Act.put, List.setIfInBounds_toArray, List.set_cons_zero, List.set_cons_succ]
          refine rgs_t (v := ?_) (some 24) 6 (by kernel_rfl) rfl rfl (by assumption) (.inl ⟨by rfl, fun w' hw => ?_⟩) ?_
          rotate_left
          · obtain ⟨q1, q2, q3⟩ := hw; go_simp <;> with_reducible rfl
          try simp only [Act.put, List.setIfInBounds_toArray, List.set_cons_zero, List.set_cons_succ]
          refine rgs_t (v := ?_) (some 25) 7 (by kernel_rfl) rfl rfl (by assumption) (.inl ⟨by rfl, fun w' hw => ?_⟩) ?_
          rotate_left
          · obtain ⟨q1, q2, q3⟩ := hw; go_simp <;> with_reducible rfl
          try simp only [Act.put, List.setIfInBounds_toArray, List.set_cons_zero, List.set_cons_succ]
          refine rgs_t (v := ?_) (some 26) 8 (by kernel_rfl) rfl rfl (by assumption) (.inl ⟨by rfl, fun w' hw => ?_⟩) ?_
          rotate_left
          · obtain ⟨q1, q2, q3⟩ := hw; go_simp <;> with_reducible rfl
          try simp only [Act.put, List.setIfInBounds_toArray, List.set_cons_zero, List.set_cons_succ]
          refine rgs_q (v := ?_) (some 27) 9 (by kernel_rfl) rfl rfl (by assumption) (by rfl) (fun w' hw K hK => ?_) ?_
          rotate_left
          · obtain ⟨q1, q2, q3⟩ := hw
            go_simp
            refine (HV2.out _).mono ?_
            rintro e w2 ⟨rfl, rfl⟩
            exact hK
          try simp only [Act.put, List.setIfInBounds_toArray, List.set_cons_zero, List.set_cons_succ]
          refine rgs_t (v := ?_) (some 28) 10 (by kernel_rfl) rfl rfl (by assumption) (.inl ⟨by rfl, fun w' hw => ?_⟩) ?_
          rotate_left
          · obtain ⟨q1, q2, q3⟩ := hw; go_simp <;> with_reducible rfl
          try simp only [Act.put, List.setIfInBounds_toArray, List.set_cons_zero, List.set_cons_succ]
          refine rgs_t (v := ?_) (some 29) 11 (by kernel_rfl) rfl rfl (by assumption) (.inl ⟨by rfl, fun w' hw => ?_⟩) ?_
          rotate_left
          · obtain ⟨q1, q2, q3⟩ := hw; go_simp <;> with_reducible rfl
          try simp only [Act.put, List.setIfInBounds_toArray, List.set_cons_zero, List.set_cons_succ]
          refine rgs_t (v := ?_) (some 3) 12 (by kernel_rfl) rfl rfl (by assumption) (.inl ⟨by rfl, fun w' hw => ?_⟩) ?_
          rotate_left
          · obtain ⟨q1, q2, q3⟩ := hw; go_simp <;> with_reducible rfl
          try simp only [Act.put, List.setIfInBounds_toArray, List.set_cons_zero, List.set_cons_succ]
          refine rgs_d (by kernel_rfl) ?_
          have ha := HA2.out
          rw [if_pos hp] at ha
          have f1 : IntKind.i64.wrap (8 + v2) = a2 := by rw [ha]; exact IntWalk.i64_in _ ⟨by omega, by omega⟩
          have f2 : IntKind.i64.wrap (34 + a0 + a1 + a2) = 34 + a0 + a1 + a2 := IntWalk.i64_in _ ⟨by omega, by omega⟩
          clear ha
          go_wp2_with fail
          first
            | exact ⟨⟨.inr (.inr (.inr (.inl ⟨rfl, by rw [f1, f2]⟩))), below_drew hbr⟩, by simp [intOf]⟩
            | (go_roundw
               case rel => first | exact ⟨.inr (.inr (.inr (.inl ⟨rfl, by first | rfl | rw [f1, f2]⟩))), below_drew hbr⟩ | ((repeat apply Exists.intro); refine ⟨?_, rfl⟩; exact ⟨.inr (.inr (.inr (.inl ⟨rfl, by first | rfl | rw [f1, f2]⟩))), below_drew hbr⟩)
               case measure => simp [intOf])
        · have ha := HA2.out
          rw [if_neg hp] at ha
          subst ha
          go_wp2_with fail
          first
            | exact ⟨⟨.inr (.inr (.inr (.inl ⟨rfl, by simp⟩))), hbr⟩, by simp [intOf]⟩
            | (go_roundw
               case rel => first | exact ⟨.inr (.inr (.inr (.inl ⟨rfl, by first | rfl | simp⟩))), hbr⟩ | ((repeat apply Exists.intro); refine ⟨?_, rfl⟩; exact ⟨.inr (.inr (.inr (.inl ⟨rfl, by first | rfl | simp⟩))), hbr⟩)
               case measure => simp [intOf])
      · by_cases hp : 0 < w3c
        · go_wp2_with fail
          have hS : (∀ i, wr.drew.cell? ⟨w.heap.size, i, none⟩ = (#[.slice A n c, .int .i64 fi, .int .i64 la, .int .i64 re, .int .i64 ti, .int .i64 de, .int .i64 w0f, .int .i64 w0c, .int .i64 w1f, .int .i64 w1c, .int .i64 w2f, .int .i64 w2c, .int .i64 w3f, .int .i64 w3c, .int .i64 ev, .int .i64 st] : Array Value)[i]?) ∧ True ∧ True := ⟨q2, trivial, trivial⟩
          refine rgs_start (fun w' => (∀ i, w'.cell? ⟨w.heap.size, i, none⟩ = (#[.slice A n c, .int .i64 fi, .int .i64 la, .int .i64 re, .int .i64 ti, .int .i64 de, .int .i64 w0f, .int .i64 w0c, .int .i64 w1f, .int .i64 w1c, .int .i64 w2f, .int .i64 w2c, .int .i64 w3f, .int .i64 w3c, .int .i64 ev, .int .i64 st] : Array Value)[i]?) ∧ True ∧ True) (by kernel_rfl) ?_
          refine rgs_t (v := ?_) (some 18) 0 (by kernel_rfl) rfl rfl (by assumption) (.inl ⟨by rfl, fun w' hw => ?_⟩) ?_
          rotate_left
          · obtain ⟨q1, q2, q3⟩ := hw; go_simp <;> with_reducible rfl
          try simp only [Act.put, List.setIfInBounds_toArray, List.set_cons_zero, List.set_cons_succ]
          refine rgs_t (v := ?_) (some 19) 1 (by kernel_rfl) rfl rfl (by assumption) (.inl ⟨by rfl, fun w' hw => ?_⟩) ?_
          rotate_left
          · obtain ⟨q1, q2, q3⟩ := hw; go_simp <;> with_reducible rfl
          try simp only [Act.put, List.setIfInBounds_toArray, List.set_cons_zero, List.set_cons_succ]
          refine rgs_t (v := ?_) (some 20) 2 (by kernel_rfl) rfl rfl (by assumption) (.inl ⟨by rfl, fun w' hw => ?_⟩) ?_
          rotate_left
          · obtain ⟨q1, q2, q3⟩ := hw; go_simp <;> with_reducible rfl
          try simp only [Act.put, List.setIfInBounds_toArray, List.set_cons_zero, List.set_cons_succ]
          refine rgs_q (v := ?_) (some 21) 3 (by kernel_rfl) rfl rfl (by assumption) (by rfl) (fun w' hw K hK => ?_) ?_
          rotate_left
          · obtain ⟨q1, q2, q3⟩ := hw
            go_simp
            refine (rsch_eq _ 8 (by decide) _).mono ?_
            rintro e w2 ⟨rfl, rfl⟩
            exact hK
          try simp only [Act.put, List.setIfInBounds_toArray, List.set_cons_zero, List.set_cons_succ]
          refine rgs_t (v := ?_) (some 22) 4 (by kernel_rfl) rfl rfl (by assumption) (.inl ⟨by rfl, fun w' hw => ?_⟩) ?_
          rotate_left
          · obtain ⟨q1, q2, q3⟩ := hw; go_simp <;> with_reducible rfl
          try simp only [Act.put, List.setIfInBounds_toArray, List.set_cons_zero, List.set_cons_succ]
          refine rgs_t (v := ?_) (some 23) 5 (by kernel_rfl) rfl rfl (by assumption) (.inl ⟨by rfl, fun w' hw => ?_⟩) ?_
          rotate_left
          · obtain ⟨q1, q2, q3⟩ := hw; go_simp <;> with_reducible rfl
          try simp only [Act.put, List.setIfInBounds_toArray, List.set_cons_zero, List.set_cons_succ]
          refine rgs_t (v := ?_) (some 24) 6 (by kernel_rfl) rfl rfl (by assumption) (.inl ⟨by rfl, fun w' hw => ?_⟩) ?_
          rotate_left
          · obtain ⟨q1, q2, q3⟩ := hw; go_simp <;> with_reducible rfl
          try simp only [Act.put, List.setIfInBounds_toArray, List.set_cons_zero, List.set_cons_succ]
          refine rgs_t (v := ?_) (some 25) 7 (by kernel_rfl) rfl rfl (by assumption) (.inl ⟨by rfl, fun w' hw => ?_⟩) ?_
          rotate_left
          · obtain ⟨q1, q2, q3⟩ := hw; go_simp <;> with_reducible rfl
          try simp only [Act.put, List.setIfInBounds_toArray, List.set_cons_zero, List.set_cons_succ]
          refine rgs_t (v := ?_) (some 26) 8 (by kernel_rfl) rfl rfl (by assumption) (.inl ⟨by rfl, fun w' hw => ?_⟩) ?_
          rotate_left
          · obtain ⟨q1, q2, q3⟩ := hw; go_simp <;> with_reducible rfl
          try simp only [Act.put, List.setIfInBounds_toArray, List.set_cons_zero, List.set_cons_succ]
          refine rgs_q (v := ?_) (some 27) 9 (by kernel_rfl) rfl rfl (by assumption) (by rfl) (fun w' hw K hK => ?_) ?_
          rotate_left
          · obtain ⟨q1, q2, q3⟩ := hw
            go_simp
            refine (HV3.out _).mono ?_
            rintro e w2 ⟨rfl, rfl⟩
            exact hK
          try simp only [Act.put, List.setIfInBounds_toArray, List.set_cons_zero, List.set_cons_succ]
          refine rgs_t (v := ?_) (some 28) 10 (by kernel_rfl) rfl rfl (by assumption) (.inl ⟨by rfl, fun w' hw => ?_⟩) ?_
          rotate_left
          · obtain ⟨q1, q2, q3⟩ := hw; go_simp <;> with_reducible rfl
          try simp only [Act.put, List.setIfInBounds_toArray, List.set_cons_zero, List.set_cons_succ]
          refine rgs_t (v := ?_) (some 29) 11 (by kernel_rfl) rfl rfl (by assumption) (.inl ⟨by rfl, fun w' hw => ?_⟩) ?_
          rotate_left
          · obtain ⟨q1, q2, q3⟩ := hw; go_simp <;> with_reducible rfl
          try simp only [Act.put, List.setIfInBounds_toArray, List.set_cons_zero, List.set_cons_succ]
          refine rgs_t (v := ?_) (some 3) 12 (by kernel_rfl) rfl rfl (by assumption) (.inl ⟨by rfl, fun w' hw => ?_⟩) ?_
          rotate_left
          · obtain ⟨q1, q2, q3⟩ := hw; go_simp <;> with_reducible rfl
          try simp only [Act.put, List.setIfInBounds_toArray, List.set_cons_zero, List.set_cons_succ]
          refine rgs_d (by kernel_rfl) ?_
          have ha := HA3.out
          rw [if_pos hp] at ha
          have f1 : IntKind.i64.wrap (8 + v3) = a3 := by rw [ha]; exact IntWalk.i64_in _ ⟨by omega, by omega⟩
          have f2 : IntKind.i64.wrap (34 + a0 + a1 + a2 + a3) = 34 + a0 + a1 + a2 + a3 := IntWalk.i64_in _ ⟨by omega, by omega⟩
          clear ha
          go_wp2_with fail
          first
            | exact ⟨⟨.inr (.inr (.inr (.inr (⟨rfl, by rw [f1, f2]⟩)))), below_drew hbr⟩, by simp [intOf]⟩
            | (go_roundw
               case rel => first | exact ⟨.inr (.inr (.inr (.inr (⟨rfl, by first | rfl | rw [f1, f2]⟩)))), below_drew hbr⟩ | ((repeat apply Exists.intro); refine ⟨?_, rfl⟩; exact ⟨.inr (.inr (.inr (.inr (⟨rfl, by first | rfl | rw [f1, f2]⟩)))), below_drew hbr⟩)
               case measure => simp [intOf])
        · have ha := HA3.out
          rw [if_neg hp] at ha
          subst ha
          go_wp2_with fail
          first
            | exact ⟨⟨.inr (.inr (.inr (.inr (⟨rfl, by simp⟩)))), hbr⟩, by simp [intOf]⟩
            | (go_roundw
               case rel => first | exact ⟨.inr (.inr (.inr (.inr (⟨rfl, by first | rfl | simp⟩)))), hbr⟩ | ((repeat apply Exists.intro); refine ⟨?_, rfl⟩; exact ⟨.inr (.inr (.inr (.inr (⟨rfl, by first | rfl | simp⟩)))), hbr⟩)
               case measure => simp [intOf])
      · go_wp2
        go_ret
        exact ⟨by rw [← HZ.out]; rfl, ext_trans hbw hbr⟩
  · rw [if_neg h0] at hz2
    subst hz2
    have hd : (k != 0) = true := by simpa using h0
    go_enter Try.func20, Try.ntmps20
    go_wp2_with fail
    refine (HC.out _ hbx).mono ?_
    rintro e w1 ⟨rfl, hb1⟩
    go_wp2
    go_ret
    exact ⟨rfl, hbx.trans (hb1.mono hbx.size)⟩

set_option maxHeartbeats 1000000 in
theorem lost_any (x : Cf) (A : Option Addr) (n c B : Nat) (z : Int) (w : World) (hr : Rd w B 2 A n (stCells x.ss)) (hl : x.ss.length = n) (hn : n ≤ maxLen) (hz : lostZ x = z) :
    Calls Try.prog 21 #[cfV A n c x] w fun e w' => e = .returned (.int .i64 z) ∧ Below w.heap.size w w' := by
  have hr := hr.fits (by decide)
  obtain ⟨k, hk⟩ : ∃ k, checkZ x = k := ⟨_, rfl⟩
  have HC := Lib.hid (fun (W : World) (h : Below w.heap.size w W) => check_any x A n c _ k W (hr.below h (Nat.le_refl _)) hl hn hk)
  have hok := fun h : k = 0 => check_ok (x := x) (by rw [hk, h])
  have hz2 : (if k = 0 then x.ev * (x.re + 1) else 0) = z := by rw [← hz, lostZ, hk]
  clear hr hk hl hz
  obtain ⟨ss, fi, la, re, ti, de, w0f, w0c, w1f, w1c, w2f, w2c, w3f, w3c, ev, st⟩ := x
  dsimp only at hz2 hok
  have hbx := (Below.refl w.heap.size w).alloc (Nat.le_refl _) (.cells #[.slice A n c, .int .i64 fi, .int .i64 la, .int .i64 re, .int .i64 ti, .int .i64 de, .int .i64 w0f, .int .i64 w0c, .int .i64 w1f, .int .i64 w1c, .int .i64 w2f, .int .i64 w2c, .int .i64 w3f, .int .i64 w3c, .int .i64 ev, .int .i64 st] 33)
  by_cases h0 : k = 0
  · obtain ⟨h1, h2, h3, h4, h5, h6, h7, h8, h9, _⟩ := hok h0
    rw [if_pos h0] at hz2
    subst h0
    have HZ := Lib.hid hz2
    have e1 : (0 : Int) ≤ ev * (re + 1) := Int.mul_nonneg (by omega) (by omega)
    have e2 : ev * (re + 1) ≤ 64 * 6 := Int.mul_le_mul (by omega) (by omega) (by omega) (by omega)
    clear hz2 hok
    go_enter Try.func21, Try.ntmps21
    go_wp2_with fail
    refine (HC.out _ hbx).mono ?_
    rintro e w1 ⟨rfl, hb1⟩
    obtain ⟨q1, z1, l1⟩ := Box.new hb1
    go_wp2
    go_ret
    exact ⟨by rw [← HZ.out]; rfl, hbx.trans (hb1.mono hbx.size)⟩
  · rw [if_neg h0] at hz2
    subst hz2
    have hd : (k != 0) = true := by simpa using h0
    go_enter Try.func21, Try.ntmps21
    go_wp2_with fail
    refine (HC.out _ hbx).mono ?_
    rintro e w1 ⟨rfl, hb1⟩
    go_wp2
    go_ret
    exact ⟨rfl, hbx.trans (hb1.mono hbx.size)⟩

set_option maxHeartbeats 1000000 in
theorem rlost_any (x : Cf) (A : Option Addr) (n c B : Nat) (z : Int) (w : World) (hr : Rd w B 2 A n (stCells x.ss)) (hl : x.ss.length = n) (hn : n ≤ maxLen) (hz : lostZ x = z) :
    Calls Try.prog 22 #[cfV A n c x] w fun e w' => e = .returned (.int .i64 z) ∧ Below w.heap.size w w' := by
  have hr := hr.fits (by decide)
  obtain ⟨k, hk⟩ : ∃ k, checkZ x = k := ⟨_, rfl⟩
  have HC := Lib.hid (fun (W : World) (h : Below w.heap.size w W) => rcheck_any x A n c _ k W (hr.below h (Nat.le_refl _)) hl hn hk)
  have hok := fun h : k = 0 => check_ok (x := x) (by rw [hk, h])
  have hz2 : (if k = 0 then x.ev * (x.re + 1) else 0) = z := by rw [← hz, lostZ, hk]
  clear hr hk hl hz
  obtain ⟨ss, fi, la, re, ti, de, w0f, w0c, w1f, w1c, w2f, w2c, w3f, w3c, ev, st⟩ := x
  dsimp only at hz2 hok
  have hbx := (Below.refl w.heap.size w).alloc (Nat.le_refl _) (.cells #[.slice A n c, .int .i64 fi, .int .i64 la, .int .i64 re, .int .i64 ti, .int .i64 de, .int .i64 w0f, .int .i64 w0c, .int .i64 w1f, .int .i64 w1c, .int .i64 w2f, .int .i64 w2c, .int .i64 w3f, .int .i64 w3c, .int .i64 ev, .int .i64 st] 33)
  by_cases h0 : k = 0
  · obtain ⟨h1, h2, h3, h4, h5, h6, h7, h8, h9, _⟩ := hok h0
    rw [if_pos h0] at hz2
    subst h0
    have HZ := Lib.hid hz2
    have e1 : (0 : Int) ≤ ev * (re + 1) := Int.mul_nonneg (by omega) (by omega)
    have e2 : ev * (re + 1) ≤ 64 * 6 := Int.mul_le_mul (by omega) (by omega) (by omega) (by omega)
    clear hz2 hok
    go_enter Try.func22, Try.ntmps22
    go_wp2_with fail
    refine (HC.out _ hbx).mono ?_
    rintro e w1 ⟨rfl, hb1⟩
    obtain ⟨q1, z1, l1⟩ := Box.new hb1
    go_wp2
    go_ret
    exact ⟨by rw [← HZ.out]; rfl, hbx.trans (hb1.mono hbx.size)⟩
  · rw [if_neg h0] at hz2
    subst hz2
    have hd : (k != 0) = true := by simpa using h0
    go_enter Try.func22, Try.ntmps22
    go_wp2_with fail
    refine (HC.out _ hbx).mono ?_
    rintro e w1 ⟨rfl, hb1⟩
    go_wp2
    go_ret
    exact ⟨rfl, hbx.trans (hb1.mono hbx.size)⟩

set_option maxRecDepth 100000 in
set_option maxHeartbeats 2000000 in
theorem att_any (x : Cf) (A : Option Addr) (n c B : Nat) (z : Int) (w : World) (hr : Rd w B 2 A n (stCells x.ss)) (hl : x.ss.length = n) (hn : n ≤ maxLen) (hz : attZ x = z) :
    Calls Try.prog 17 #[cfV A n c x] w fun e w' => e = .returned (.int .i64 z) ∧ Below w.heap.size w w' := by
  have hr := hr.fits (by decide)
  obtain ⟨u, hu⟩ : ∃ u, unitsZ x = u := ⟨_, rfl⟩
  obtain ⟨v, hv⟩ : ∃ v, unitZ x = v := ⟨_, rfl⟩
  have HU := Lib.hid (fun (W : World) (h : Below w.heap.size w W) => units_any x A n c _ u W (hr.below h (Nat.le_refl _)) hl hn hu)
  have HV := Lib.hid (fun (W : World) (h : Below w.heap.size w W) => unit_any x A n c _ v W (hr.below h (Nat.le_refl _)) hl hn hv)
  have hub := units_bd x
  have hvb := unit_bd x
  have hfin : IntKind.i64.wrap (IntKind.i64.wrap (IntKind.i64.wrap (x.re + 1) * u) * v) = z := by
    by_cases h0 : checkZ x = 0
    · obtain ⟨h1, h2, h3, h4, h5, h6, h7, _⟩ := check_ok h0
      rw [← hz, attZ, if_pos h0, hu, hv]
      rw [hu] at hub
      rw [hv] at hvb
      skip
      have e0 : IntKind.i64.wrap (x.re + 1) = x.re + 1 := IntWalk.i64_in _ ⟨by omega, by omega⟩
      have e1 : (0 : Int) ≤ (x.re + 1) * u := Int.mul_nonneg (by omega) (by omega)
      have e2 : (x.re + 1) * u ≤ 6 * 1482 := Int.mul_le_mul (by omega) (by omega) (by omega) (by omega)
      have e3 : IntKind.i64.wrap ((x.re + 1) * u) = (x.re + 1) * u := IntWalk.i64_in _ ⟨by omega, by omega⟩
      have e4 : (0 : Int) ≤ (x.re + 1) * u * v := Int.mul_nonneg e1 (by omega)
      have e5 : (x.re + 1) * u * v ≤ 6 * 1482 * 38994 := Int.mul_le_mul e2 (by omega) (by omega) (by omega)
      rw [e0, e3]
      exact IntWalk.i64_in _ ⟨by omega, by omega⟩
    · have hu0 : u = 0 := by rw [← hu, unitsZ, if_neg h0]
      rw [← hz, attZ, if_neg h0, hu0, Int.mul_zero]; simp [show IntKind.i64.wrap 0 = 0 from by decide]
  clear hr hu hv hz hub hvb hl
  obtain ⟨ss, fi, la, re, ti, de, w0f, w0c, w1f, w1c, w2f, w2c, w3f, w3c, ev, st⟩ := x
  dsimp only at hfin
  have HF := Lib.hid hfin
  clear hfin
  have HB := Lib.hid (Box.alloc_ (w := w) (cs := #[.slice A n c, .int .i64 fi, .int .i64 la, .int .i64 re, .int .i64 ti, .int .i64 de, .int .i64 w0f, .int .i64 w0c, .int .i64 w1f, .int .i64 w1c, .int .i64 w2f, .int .i64 w2c, .int .i64 w3f, .int .i64 w3c, .int .i64 ev, .int .i64 st]) (e := 33))
  have hbx := (Below.refl w.heap.size w).alloc (Nat.le_refl _) (.cells #[.slice A n c, .int .i64 fi, .int .i64 la, .int .i64 re, .int .i64 ti, .int .i64 de, .int .i64 w0f, .int .i64 w0c, .int .i64 w1f, .int .i64 w1c, .int .i64 w2f, .int .i64 w2c, .int .i64 w3f, .int .i64 w3c, .int .i64 ev, .int .i64 st] 33)
  obtain ⟨W0, hW0⟩ : ∃ W0, w.alloc (.cells #[.slice A n c, .int .i64 fi, .int .i64 la, .int .i64 re, .int .i64 ti, .int .i64 de, .int .i64 w0f, .int .i64 w0c, .int .i64 w1f, .int .i64 w1c, .int .i64 w2f, .int .i64 w2c, .int .i64 w3f, .int .i64 w3c, .int .i64 ev, .int .i64 st] 33) = W0 := ⟨_, rfl⟩
  go_enter Try.func17, Try.ntmps17
  go_wp2_with fail
  rw [hW0] at HB hbx
  try rw [hW0]
  clear hW0
  have hbd := below_drew hbx
  have hS : (∀ i, W0.drew.cell? ⟨w.heap.size, i, none⟩ = (#[.slice A n c, .int .i64 fi, .int .i64 la, .int .i64 re, .int .i64 ti, .int .i64 de, .int .i64 w0f, .int .i64 w0c, .int .i64 w1f, .int .i64 w1c, .int .i64 w2f, .int .i64 w2c, .int .i64 w3f, .int .i64 w3c, .int .i64 ev, .int .i64 st] : Array Value)[i]?) ∧ True ∧ True := ⟨HB.out.1, trivial, trivial⟩
  refine rgs_start (fun w' => (∀ i, w'.cell? ⟨w.heap.size, i, none⟩ = (#[.slice A n c, .int .i64 fi, .int .i64 la, .int .i64 re, .int .i64 ti, .int .i64 de, .int .i64 w0f, .int .i64 w0c, .int .i64 w1f, .int .i64 w1c, .int .i64 w2f, .int .i64 w2c, .int .i64 w3f, .int .i64 w3c, .int .i64 ev, .int .i64 st] : Array Value)[i]?) ∧ True ∧ True) (by kernel_rfl) ?_
  refine rgs_t (v := ?_) (some 3) 0 (by kernel_rfl) rfl rfl (by assumption) (.inl ⟨by rfl, fun w' hw => ?_⟩) ?_
  rotate_left
  · obtain ⟨q1, q2, q3⟩ := hw; go_simp <;> with_reducible rfl
  try simp only [Act.put, List.setIfInBounds_toArray, List.set_cons_zero, List.set_cons_succ]
  refine rgs_t (v := ?_) (some 4) 1 (by kernel_rfl) rfl rfl (by assumption) (.inl ⟨by rfl, fun w' hw => ?_⟩) ?_
  rotate_left
  · obtain ⟨q1, q2, q3⟩ := hw; go_simp <;> with_reducible rfl
  try simp only [Act.put, List.setIfInBounds_toArray, List.set_cons_zero, List.set_cons_succ]
  refine rgs_t (v := ?_) (some 5) 2 (by kernel_rfl) rfl rfl (by assumption) (.inl ⟨by rfl, fun w' hw => ?_⟩) ?_
  rotate_left
  · obtain ⟨q1, q2, q3⟩ := hw; go_simp <;> with_reducible rfl
  try simp only [Act.put, List.setIfInBounds_toArray, List.set_cons_zero, List.set_cons_succ]
  refine rgs_t (v := ?_) (some 6) 3 (by kernel_rfl) rfl rfl (by assumption) (.inl ⟨by rfl, fun w' hw => ?_⟩) ?_
  rotate_left
  · obtain ⟨q1, q2, q3⟩ := hw; go_simp <;> with_reducible rfl
  try simp only [Act.put, List.setIfInBounds_toArray, List.set_cons_zero, List.set_cons_succ]
  refine rgs_t (v := ?_) (some 9) 6 (by kernel_rfl) rfl rfl (by assumption) (.inl ⟨by rfl, fun w' hw => ?_⟩) ?_
  rotate_left
  · obtain ⟨q1, q2, q3⟩ := hw; go_simp <;> with_reducible rfl
  try simp only [Act.put, List.setIfInBounds_toArray, List.set_cons_zero, List.set_cons_succ]
  refine rgs_c 4 (by kernel_rfl) rfl (by rfl) (fun K hK => ?_)
  go_simp
  refine (HU.out _ hbd).mono ?_
  rintro e x1 ⟨rfl, hb1⟩
  have hbc1 : Below W0.heap.size W0 x1 := (below_drew (Below.refl W0.heap.size W0)).trans hb1
  have hbw1 := hbx.trans (hbc1.mono hbx.size)
  have hS1 : (∀ i, x1.cell? ⟨w.heap.size, i, none⟩ = (#[.slice A n c, .int .i64 fi, .int .i64 la, .int .i64 re, .int .i64 ti, .int .i64 de, .int .i64 w0f, .int .i64 w0c, .int .i64 w1f, .int .i64 w1c, .int .i64 w2f, .int .i64 w2c, .int .i64 w3f, .int .i64 w3c, .int .i64 ev, .int .i64 st] : Array Value)[i]?) ∧ True ∧ True := ⟨(HB.out.below hbc1).1, trivial, trivial⟩
  refine hK _ _ hS1 ?_
  clear hK K
  try simp only [Act.put, List.setIfInBounds_toArray, List.set_cons_zero, List.set_cons_succ]
  refine rgs_t (v := ?_) (some 8) 5 (by kernel_rfl) rfl rfl (by assumption) (.inl ⟨by rfl, fun w' hw => ?_⟩) ?_
  rotate_left
  · obtain ⟨q1, q2, q3⟩ := hw; go_simp <;> with_reducible rfl
  try simp only [Act.put, List.setIfInBounds_toArray, List.set_cons_zero, List.set_cons_succ]
  refine rgs_c 7 (by kernel_rfl) rfl (by rfl) (fun K hK => ?_)
  go_simp
  refine (HV.out _ hbw1).mono ?_
  rintro e x2 ⟨rfl, hb2⟩
  have hbc2 := ext_trans hbc1 hb2
  have hS2 : (∀ i, x2.cell? ⟨w.heap.size, i, none⟩ = (#[.slice A n c, .int .i64 fi, .int .i64 la, .int .i64 re, .int .i64 ti, .int .i64 de, .int .i64 w0f, .int .i64 w0c, .int .i64 w1f, .int .i64 w1c, .int .i64 w2f, .int .i64 w2c, .int .i64 w3f, .int .i64 w3c, .int .i64 ev, .int .i64 st] : Array Value)[i]?) ∧ True ∧ True := ⟨(HB.out.below hbc2).1, trivial, trivial⟩
  refine hK _ _ hS2 ?_
  clear hK K
  try simp only [Act.put, List.setIfInBounds_toArray, List.set_cons_zero, List.set_cons_succ]
  refine rgs_t (v := ?_) (some 11) 8 (by kernel_rfl) rfl rfl (by assumption) (.inl ⟨by rfl, fun w' hw => ?_⟩) ?_
  rotate_left
  · obtain ⟨q1, q2, q3⟩ := hw; go_simp <;> with_reducible rfl
  try simp only [Act.put, List.setIfInBounds_toArray, List.set_cons_zero, List.set_cons_succ]
  refine rgs_t (v := ?_) (some 2) 9 (by kernel_rfl) rfl rfl (by assumption) (.inl ⟨by rfl, fun w' hw => ?_⟩) ?_
  rotate_left
  · obtain ⟨q1, q2, q3⟩ := hw; go_simp <;> with_reducible rfl
  try simp only [Act.put, List.setIfInBounds_toArray, List.set_cons_zero, List.set_cons_succ]
  refine rgs_d (by kernel_rfl) ?_
  go_wp2
  go_ret
  exact ⟨by rw [HF.out]; rfl, hbx.trans (hbc2.mono hbx.size)⟩

set_option maxRecDepth 100000 in
set_option maxHeartbeats 2000000 in
theorem ratt_any (x : Cf) (A : Option Addr) (n c B : Nat) (z : Int) (w : World) (hr : Rd w B 2 A n (stCells x.ss)) (hl : x.ss.length = n) (hn : n ≤ maxLen) (hck : checkZ x = 0) (hz : attZ x = z) :
    Calls Try.prog 19 #[cfV A n c x] w fun e w' => e = .returned (.int .i64 z) ∧ Below w.heap.size w w' := by
  have hr := hr.fits (by decide)
  obtain ⟨u, hu⟩ : ∃ u, unitsZ x = u := ⟨_, rfl⟩
  obtain ⟨v, hv⟩ : ∃ v, unitZ x = v := ⟨_, rfl⟩
  have HU := Lib.hid (fun (W : World) (h : Below w.heap.size w W) => runits_any x A n c _ u W (hr.below h (Nat.le_refl _)) hl hn hu)
  have HV := Lib.hid (fun (W : World) (h : Below w.heap.size w W) => runit_any x A n c _ v W (hr.below h (Nat.le_refl _)) hl hn hv)
  have hub := units_bd x
  have hvb := unit_bd x
  have hfin : IntKind.i64.wrap (IntKind.i64.wrap (IntKind.i64.wrap (x.re.tmod 1000 + 1) * u) * v) = z := by
    by_cases h0 : checkZ x = 0
    · obtain ⟨h1, h2, h3, h4, h5, h6, h7, _⟩ := check_ok h0
      rw [← hz, attZ, if_pos h0, hu, hv]
      rw [hu] at hub
      rw [hv] at hvb
      rw [Int.tmod_eq_emod_of_nonneg h6, Int.emod_eq_of_lt h6 (by omega)]
      have e0 : IntKind.i64.wrap (x.re + 1) = x.re + 1 := IntWalk.i64_in _ ⟨by omega, by omega⟩
      have e1 : (0 : Int) ≤ (x.re + 1) * u := Int.mul_nonneg (by omega) (by omega)
      have e2 : (x.re + 1) * u ≤ 6 * 1482 := Int.mul_le_mul (by omega) (by omega) (by omega) (by omega)
      have e3 : IntKind.i64.wrap ((x.re + 1) * u) = (x.re + 1) * u := IntWalk.i64_in _ ⟨by omega, by omega⟩
      have e4 : (0 : Int) ≤ (x.re + 1) * u * v := Int.mul_nonneg e1 (by omega)
      have e5 : (x.re + 1) * u * v ≤ 6 * 1482 * 38994 := Int.mul_le_mul e2 (by omega) (by omega) (by omega)
      rw [e0, e3]
      exact IntWalk.i64_in _ ⟨by omega, by omega⟩
    · exact absurd hck h0

  clear hr hu hv hz hub hvb hl hck
  obtain ⟨ss, fi, la, re, ti, de, w0f, w0c, w1f, w1c, w2f, w2c, w3f, w3c, ev, st⟩ := x
  dsimp only at hfin
  have HF := Lib.hid hfin
  clear hfin
  have HB := Lib.hid (Box.alloc_ (w := w) (cs := #[.slice A n c, .int .i64 fi, .int .i64 la, .int .i64 re, .int .i64 ti, .int .i64 de, .int .i64 w0f, .int .i64 w0c, .int .i64 w1f, .int .i64 w1c, .int .i64 w2f, .int .i64 w2c, .int .i64 w3f, .int .i64 w3c, .int .i64 ev, .int .i64 st]) (e := 33))
  have hbx := (Below.refl w.heap.size w).alloc (Nat.le_refl _) (.cells #[.slice A n c, .int .i64 fi, .int .i64 la, .int .i64 re, .int .i64 ti, .int .i64 de, .int .i64 w0f, .int .i64 w0c, .int .i64 w1f, .int .i64 w1c, .int .i64 w2f, .int .i64 w2c, .int .i64 w3f, .int .i64 w3c, .int .i64 ev, .int .i64 st] 33)
  obtain ⟨W0, hW0⟩ : ∃ W0, w.alloc (.cells #[.slice A n c, .int .i64 fi, .int .i64 la, .int .i64 re, .int .i64 ti, .int .i64 de, .int .i64 w0f, .int .i64 w0c, .int .i64 w1f, .int .i64 w1c, .int .i64 w2f, .int .i64 w2c, .int .i64 w3f, .int .i64 w3c, .int .i64 ev, .int .i64 st] 33) = W0 := ⟨_, rfl⟩
  go_enter Try.func19, Try.ntmps19
  go_wp2_with fail
  rw [hW0] at HB hbx
  try rw [hW0]
  clear hW0
  have hbd := below_drew hbx
  have hS : (∀ i, W0.drew.cell? ⟨w.heap.size, i, none⟩ = (#[.slice A n c, .int .i64 fi, .int .i64 la, .int .i64 re, .int .i64 ti, .int .i64 de, .int .i64 w0f, .int .i64 w0c, .int .i64 w1f, .int .i64 w1c, .int .i64 w2f, .int .i64 w2c, .int .i64 w3f, .int .i64 w3c, .int .i64 ev, .int .i64 st] : Array Value)[i]?) ∧ True ∧ True := ⟨HB.out.1, trivial, trivial⟩
  refine rgs_start (fun w' => (∀ i, w'.cell? ⟨w.heap.size, i, none⟩ = (#[.slice A n c, .int .i64 fi, .int .i64 la, .int .i64 re, .int .i64 ti, .int .i64 de, .int .i64 w0f, .int .i64 w0c, .int .i64 w1f, .int .i64 w1c, .int .i64 w2f, .int .i64 w2c, .int .i64 w3f, .int .i64 w3c, .int .i64 ev, .int .i64 st] : Array Value)[i]?) ∧ True ∧ True) (by kernel_rfl) ?_
  refine rgs_t (v := ?_) (some 3) 0 (by kernel_rfl) rfl rfl (by assumption) (.inl ⟨by rfl, fun w' hw => ?_⟩) ?_
  rotate_left
  · obtain ⟨q1, q2, q3⟩ := hw; go_simp <;> with_reducible rfl
  try simp only [Act.put, List.setIfInBounds_toArray, List.set_cons_zero, List.set_cons_succ]
  refine rgs_t (v := ?_) (some 4) 1 (by kernel_rfl) rfl rfl (by assumption) (.inl ⟨by rfl, fun w' hw => ?_⟩) ?_
  rotate_left
  · obtain ⟨q1, q2, q3⟩ := hw; go_simp <;> with_reducible rfl
  try simp only [Act.put, List.setIfInBounds_toArray, List.set_cons_zero, List.set_cons_succ]
  refine rgs_t (v := ?_) (some 5) 2 (by kernel_rfl) rfl rfl (by assumption) (.inl ⟨by rfl, fun w' hw => ?_⟩) ?_
  rotate_left
  · obtain ⟨q1, q2, q3⟩ := hw; go_simp <;> with_reducible rfl
  try simp only [Act.put, List.setIfInBounds_toArray, List.set_cons_zero, List.set_cons_succ]
  refine rgs_t (v := ?_) (some 6) 3 (by kernel_rfl) rfl rfl (by assumption) (.inl ⟨by rfl, fun w' hw => ?_⟩) ?_
  rotate_left
  · obtain ⟨q1, q2, q3⟩ := hw; go_simp <;> with_reducible rfl
  try simp only [Act.put, List.setIfInBounds_toArray, List.set_cons_zero, List.set_cons_succ]
  refine rgs_t (v := ?_) (some 7) 4 (by kernel_rfl) rfl rfl (by assumption) (.inl ⟨by rfl, fun w' hw => ?_⟩) ?_
  rotate_left
  · obtain ⟨q1, q2, q3⟩ := hw; go_simp <;> with_reducible rfl
  try simp only [Act.put, List.setIfInBounds_toArray, List.set_cons_zero, List.set_cons_succ]
  refine rgs_t (v := ?_) (some 10) 7 (by kernel_rfl) rfl rfl (by assumption) (.inl ⟨by rfl, fun w' hw => ?_⟩) ?_
  rotate_left
  · obtain ⟨q1, q2, q3⟩ := hw; go_simp <;> with_reducible rfl
  try simp only [Act.put, List.setIfInBounds_toArray, List.set_cons_zero, List.set_cons_succ]
  refine rgs_c 5 (by kernel_rfl) rfl (by rfl) (fun K hK => ?_)
  go_simp
  refine (HU.out _ hbd).mono ?_
  rintro e x1 ⟨rfl, hb1⟩
  have hbc1 : Below W0.heap.size W0 x1 := (below_drew (Below.refl W0.heap.size W0)).trans hb1
  have hbw1 := hbx.trans (hbc1.mono hbx.size)
  have hS1 : (∀ i, x1.cell? ⟨w.heap.size, i, none⟩ = (#[.slice A n c, .int .i64 fi, .int .i64 la, .int .i64 re, .int .i64 ti, .int .i64 de, .int .i64 w0f, .int .i64 w0c, .int .i64 w1f, .int .i64 w1c, .int .i64 w2f, .int .i64 w2c, .int .i64 w3f, .int .i64 w3c, .int .i64 ev, .int .i64 st] : Array Value)[i]?) ∧ True ∧ True := ⟨(HB.out.below hbc1).1, trivial, trivial⟩
  refine hK _ _ hS1 ?_
  clear hK K
  try simp only [Act.put, List.setIfInBounds_toArray, List.set_cons_zero, List.set_cons_succ]
  refine rgs_t (v := ?_) (some 9) 6 (by kernel_rfl) rfl rfl (by assumption) (.inl ⟨by rfl, fun w' hw => ?_⟩) ?_
  rotate_left
  · obtain ⟨q1, q2, q3⟩ := hw; go_simp <;> with_reducible rfl
  try simp only [Act.put, List.setIfInBounds_toArray, List.set_cons_zero, List.set_cons_succ]
  refine rgs_c 8 (by kernel_rfl) rfl (by rfl) (fun K hK => ?_)
  go_simp
  refine (HV.out _ hbw1).mono ?_
  rintro e x2 ⟨rfl, hb2⟩
  have hbc2 := ext_trans hbc1 hb2
  have hS2 : (∀ i, x2.cell? ⟨w.heap.size, i, none⟩ = (#[.slice A n c, .int .i64 fi, .int .i64 la, .int .i64 re, .int .i64 ti, .int .i64 de, .int .i64 w0f, .int .i64 w0c, .int .i64 w1f, .int .i64 w1c, .int .i64 w2f, .int .i64 w2c, .int .i64 w3f, .int .i64 w3c, .int .i64 ev, .int .i64 st] : Array Value)[i]?) ∧ True ∧ True := ⟨(HB.out.below hbc2).1, trivial, trivial⟩
  refine hK _ _ hS2 ?_
  clear hK K
  try simp only [Act.put, List.setIfInBounds_toArray, List.set_cons_zero, List.set_cons_succ]
  refine rgs_t (v := ?_) (some 12) 9 (by kernel_rfl) rfl rfl (by assumption) (.inl ⟨by rfl, fun w' hw => ?_⟩) ?_
  rotate_left
  · obtain ⟨q1, q2, q3⟩ := hw; go_simp <;> with_reducible rfl
  try simp only [Act.put, List.setIfInBounds_toArray, List.set_cons_zero, List.set_cons_succ]
  refine rgs_t (v := ?_) (some 2) 10 (by kernel_rfl) rfl rfl (by assumption) (.inl ⟨by rfl, fun w' hw => ?_⟩) ?_
  rotate_left
  · obtain ⟨q1, q2, q3⟩ := hw; go_simp <;> with_reducible rfl
  try simp only [Act.put, List.setIfInBounds_toArray, List.set_cons_zero, List.set_cons_succ]
  refine rgs_d (by kernel_rfl) ?_
  go_wp2
  go_ret
  exact ⟨by rw [HF.out]; rfl, hbx.trans (hbc2.mono hbx.size)⟩
end Go.Proofs.Ytjpljjhnjholdaa

/- Layer 8: slices.Grow of nil, slices.Concat of two, crc.Append, crc.Check; adu.Build and adu.Split of a built frame. -/
import Derived.Test.YtoliplochipoeaaTCrc
import Derived.Test.YtoliplochipoeaaRegS
import Derived.Test.YtoliplochipoeaaRegQ
import Derived.Lib.AppendZeros
import Derived.RegionTactic
import Derived.Deep.DeepCutAuto
set_option linter.unusedVariables false
set_option linter.unusedSimpArgs false
namespace Go.Proofs.Ytoliplochipoeaa
open Go.RowKit

theorem intKind : Try.prog.underlying 3 = some (.int .i64) := Try.underlying3
set_option maxHeartbeats 1000000 in
theorem grow_nil (n : Nat) (h1 : 1 ≤ n) (h2 : n ≤ 100000) (w : World) :
    Calls Try.prog 68 #[.slice none 0 0, .int .i64 n] w fun e w' => ∃ cap, e = .returned (.slice (some ⟨w.heap.size, 0, none⟩) 0 cap) ∧ w'.ownsRow w.heap.size 5 1 (.slice (some ⟨w.heap.size, 0, none⟩) 0 cap) 0 [] ∧ Below w.heap.size w w' := by
  obtain ⟨i, hi, hz, hs, hb⟩ := info_parts byteInfo
  have HAP := Lib.hid (fun W => Lib.run_append_nil_zeros (P := Try.prog) W 22 3 22 5 i (.int .u8 0) .i64 .i64 Try.underlying22 Try.underlying3 hi hz n (by omega) (by omega) (by omega) (by rw [hb]; omega))
  have d1 : decide ((n : Int) < 0) = false := by simp
  have d2 : decide ((0 : Int) < (n : Int)) = true := by simp; omega
  have d3 : decide (0 < n) = true := by simp; omega
  have hge : n ≤ grownCap w n 0 5 := grownCap_ge w n 0 _
  have hle : grownCap w n 0 5 ≤ maxLen := grownCap_le_maxLen w n 0 _ (by unfold maxLen; omega)
  obtain ⟨cap, hcap⟩ : ∃ c, grownCap w n 0 5 = c := ⟨_, rfl⟩
  have HAP2 := Lib.hid (HAP.out w)
  rw [hcap] at HAP2 hge hle
  have hsz : (Builtin.zeroCells (Value.int IntKind.u8 0).cells n ++ Builtin.zeroCells (Value.int IntKind.u8 0).cells (cap - n)).size = cap * 1 := by
    simp [Builtin.zeroCells, Value.cells]; omega
  have HOW := Lib.hid (World.ownsRow_made (base := w.heap.size) (e := 5) (size := 1) w.drew (Builtin.zeroCells (Value.int IntKind.u8 0).cells n ++ Builtin.zeroCells (Value.int IntKind.u8 0).cells (cap - n)) cap (Nat.le_refl _) hle hsz)
  obtain ⟨row, hrow⟩ : ∃ r, Builtin.zeroCells (Value.int IntKind.u8 0).cells n ++ Builtin.zeroCells (Value.int IntKind.u8 0).cells (cap - n) = r := ⟨_, rfl⟩
  rw [hrow] at HAP2 HOW
  clear hi hz hs hb hcap hrow hsz HAP
  go_enter Try.func68, Try.ntmps68
  go_wp2_with (at_builtin; refine Lib.wpList_append_run _ rfl _ _ _ _ rfl _ _ rfl rfl _ _ HAP2.out ?_)
  go_ret
  exact ⟨cap, rfl, HOW.out, (below_drew (Below.refl _ w)).alloc (Nat.le_refl _) _⟩

theorem by8_append (a b : List Int) : by8 (a ++ b) = by8 a ++ by8 b := by simp
set_option maxRecDepth 100000 in
set_option maxHeartbeats 4000000 in
/-- slices.Concat of two slices, of which the first is not empty. -/
theorem concat_two (gb cc : Nat) (A A2 : Option Addr) (n c m c2 : Nat) (xs ys : List Int) (w : World) (c0 : w.cell? ⟨gb, 0, none⟩ = some (.slice A n c)) (c1 : w.cell? ⟨gb, 1, none⟩ = some (.slice A2 m c2)) (hgl : gb < w.heap.size)
    (hr : Rd w w.heap.size 1 A n (by8 xs)) (hr2 : Rd w w.heap.size 1 A2 m (by8 ys)) (hn : 1 ≤ n) (hn2 : n ≤ 1000) (hm : m ≤ 1000) :
    Calls Try.prog 49 #[.slice (some ⟨gb, 0, none⟩) 2 cc] w fun e w' => ∃ v, e = .returned v ∧ w'.ownsRow w.heap.size 5 1 v (n + m) (by8 (xs ++ ys)) ∧ Below w.heap.size w w' := by
  have HR := Lib.hid hr
  have HR2 := Lib.hid hr2
  have HG := Lib.hid (fun W => grow_nil (n + m) (by omega) (by omega) W)
  clear hr hr2
  go_enter Try.func49, Try.ntmps49
  go_wp2_with fail
  go_loopw [3, 5, 11] (fun z _ i wr => ∃ k : Nat, k ≤ 2 ∧ i = .int .i64 k ∧ z = .int .i64 ((if k = 0 then 0 else if k = 1 then n else n + m : Nat) : Int) ∧ w = wr) (fun _ _ i _ => 2 - (intOf i).toNat)
  case atStart => exact ⟨0, by omega, rfl, rfl, rfl⟩
  case round =>
    obtain ⟨k, hk, rfl, rfl, rfl⟩ := hrel
    rcases (show k = 0 ∨ k = 1 ∨ k = 2 by omega) with rfl | rfl | rfl
    · go_wp2
      exact ⟨⟨1, by omega, by go_num, by simp, by trivial⟩, by simp [intOf]⟩
    · have e1 : ((if (1 : Nat) = 0 then 0 else if (1 : Nat) = 1 then n else n + m : Nat) : Int) = (n : Int) := by simp
      rw [e1]
      clear e1
      go_wp2
      exact ⟨⟨2, by omega, by go_num, by simp, by trivial⟩, by simp [intOf]⟩
    · have e1 : ((if (2 : Nat) = 0 then 0 else if (2 : Nat) = 1 then n else n + m : Nat) : Int) = ((n + m : Nat) : Int) := by simp
      rw [e1]
      clear e1
      obtain ⟨nm, hnm⟩ : ∃ z, n + m = z := ⟨_, rfl⟩
      rw [hnm] at HG ⊢
      have HNM := Lib.hid hnm
      clear hnm
      go_wp2_with fail
      refine (HG.out _).mono ?_
      rintro e w1 ⟨cap, rfl, hown, hb1⟩
      obtain ⟨v0, hv0⟩ : ∃ v, Value.slice (some ⟨w.heap.size, 0, none⟩) 0 cap = v := ⟨_, rfl⟩
      rw [hv0] at hown ⊢
      have HO1 := Lib.hid hown
      have HB1 := Lib.hid hb1
      have d0 : w1.cell? ⟨gb, 0, none⟩ = some (.slice A n c) := (hb1.cell (p := ⟨gb, 0, none⟩) hgl).trans c0
      have d1 : w1.cell? ⟨gb, 1, none⟩ = some (.slice A2 m c2) := (hb1.cell (p := ⟨gb, 1, none⟩) hgl).trans c1
      clear hown hb1 hv0 c0 c1
      go_wp2_with fail
      go_loopw [6, 8, 27] (fun v _ i wr => ∃ k : Nat, k ≤ 2 ∧ i = .int .i64 k ∧ wr.ownsRow w.heap.size 5 1 v (if k = 0 then 0 else if k = 1 then n else n + m) (by8 (if k = 0 then [] else if k = 1 then xs else xs ++ ys)) ∧ Below w.heap.size w wr) (fun _ _ i _ => 2 - (intOf i).toNat)
      case atStart => exact ⟨0, by omega, rfl, HO1.out, HB1.out⟩
      case round =>
        obtain ⟨k, hk, rfl, hown, hbr⟩ := hrel
        have HO := Lib.hid hown
        have hsz := hbr.size
        have d0 : wr.cell? ⟨gb, 0, none⟩ = some (.slice A n c) := (hbr.cell (p := ⟨gb, 0, none⟩) hgl).trans ((HB1.out.cell (p := ⟨gb, 0, none⟩) hgl).symm.trans d0)
        have d1 : wr.cell? ⟨gb, 1, none⟩ = some (.slice A2 m c2) := (hbr.cell (p := ⟨gb, 1, none⟩) hgl).trans ((HB1.out.cell (p := ⟨gb, 1, none⟩) hgl).symm.trans d1)
        clear hown
        rcases (show k = 0 ∨ k = 1 ∨ k = 2 by omega) with rfl | rfl | rfl
        · have HOx := Lib.hid (show wr.ownsRow w.heap.size 5 1 _ 0 (by8 []) from HO.out)
          go_wp2_with (at_builtin; refine wpList_appR (.tmp 31) (.tmp 32) 22 w.heap.size 5 _ 1 1 _ 0 (by8 []) w.heap.size A n c (by8 xs) Try.underlying22 byteInfo rfl (by decide) rfl rfl rfl rfl HOx.out (HR.out.below hbr (Nat.le_refl _)) (one_ints _ _) (by omega) (by omega) hsz ?_; intro v1 w2 hown1 hg1 hb2)
          exact ⟨⟨1, by omega, by go_num, by simpa using hown1, hbr.trans hb2⟩, by simp [intOf]⟩
        · have HOx := Lib.hid (show wr.ownsRow w.heap.size 5 1 _ n (by8 xs) from HO.out)
          go_wp2_with (at_builtin; refine wpList_appR (.tmp 31) (.tmp 32) 22 w.heap.size 5 _ 1 1 _ n (by8 xs) w.heap.size A2 m c2 (by8 ys) Try.underlying22 byteInfo rfl (by decide) rfl rfl rfl rfl HOx.out (HR2.out.below hbr (Nat.le_refl _)) (one_ints _ _) (by omega) (by omega) hsz ?_; intro v1 w2 hown1 hg1 hb2)
          exact ⟨⟨2, by omega, by go_num, by simpa using hown1, hbr.trans hb2⟩, by simp [intOf]⟩
        · have HOx := Lib.hid (show wr.ownsRow w.heap.size 5 1 _ (n + m) (by8 (xs ++ ys)) from HO.out)
          go_wp2
          go_ret
          exact ⟨_, rfl, by rw [← HNM.out]; exact HOx.out, hbr⟩

/-- The bytes of a checksum. -/
def crcB (xs : List Int) : List Int := [crcL xs % 256, crcL xs / 256]
theorem u8_wrap (z : Int) : IntKind.u8.wrap z = z % 256 := by simp [IntKind.wrap, IntKind.bits, IntKind.signed]
set_option maxRecDepth 100000 in
set_option maxHeartbeats 400000 in
theorem crcAppend_any (xs : List Int) (A : Option Addr) (n c : Nat) (w : World) (hr : Rd w w.heap.size 1 A n (by8 xs)) (hx : ∀ x ∈ xs, 0 ≤ x ∧ x ≤ 255) (hn : 1 ≤ n) (hn2 : n ≤ 900) :
    Calls Try.prog 24 #[.slice A n c] w fun e w' => ∃ v, e = .returned v ∧ w'.ownsRow w.heap.size 5 1 v (n + 2) (by8 (xs ++ crcB xs)) ∧ Below w.heap.size w w' := by
  have HS := Lib.hid (fun (W : World) (h : Rd W w.heap.size 1 A n (by8 xs)) => crcSum_any xs A n c w.heap.size W h hx (by omega))
  obtain ⟨z, hz⟩ : ∃ z, crcL xs = z := ⟨_, rfl⟩
  have hzb := crcL_bd xs
  rw [hz] at hzb HS
  have e1 : IntKind.u8.wrap z = z % 256 := u8_wrap z
  have e2 : IntKind.u8.wrap (z / 256) = z / 256 := by rw [u8_wrap]; omega
  have e3 : IntKind.u16.wrap (z / 256) = z / 256 := by rw [show IntKind.u16.wrap (z / 256) = z / 256 % 65536 by simp [IntKind.wrap, IntKind.bits, IntKind.signed]]; omega
  obtain ⟨lo, hlo⟩ : ∃ lo, z % 256 = lo := ⟨_, rfl⟩
  obtain ⟨hi, hhi⟩ : ∃ hi, z / 256 = hi := ⟨_, rfl⟩
  have hcb : crcB xs = [lo, hi] := by rw [crcB, hz, hlo, hhi]
  have e4 : hi % 256 = hi := by omega
  have HCB := Lib.hid hcb
  have HR := Lib.hid hr
  have hW : ∀ W1 W2 : World, w.alloc (.cells #[.int .u8 lo, .int .u8 hi] 5) = W1 → W1.alloc (.cells #[.slice A n c, .slice (some ⟨w.heap.size, 0, none⟩) 2 2] 22) = W2 → Calls Try.prog 49 #[.slice (some ⟨W1.heap.size, 0, none⟩) 2 2] W2 fun e w' => ∃ v, e = .returned v ∧ w'.ownsRow w.heap.size 5 1 v (n + 2) (by8 (xs ++ [lo, hi])) ∧ Below w.heap.size w w' := by
    intro W1 W2 h1 h2
    have hb1 : Below w.heap.size w W1 := h1 ▸ (Below.refl _ _).alloc (Nat.le_refl _) _
    have hb2 : Below W1.heap.size W1 W2 := h2 ▸ (Below.refl _ _).alloc (Nat.le_refl _) _
    have hbx : Box W2 W1.heap.size #[.slice A n c, .slice (some ⟨w.heap.size, 0, none⟩) 2 2] := h2 ▸ Box.alloc_
    have hl : Rd W1 W1.heap.size 1 (some ⟨w.heap.size, 0, none⟩) 2 (by8 [lo, hi]) := by
      subst h1
      exact Rd.lit (cs := #[.int .u8 lo, .int .u8 hi]) rfl (by simp)
    have hb02 := ext_trans hb1 hb2
    have k0 : W2.cell? ⟨W1.heap.size, 0, none⟩ = some (.slice A n c) := by rw [hbx.1 0]; rfl
    have k1 : W2.cell? ⟨W1.heap.size, 1, none⟩ = some (.slice (some ⟨w.heap.size, 0, none⟩) 2 2) := by rw [hbx.1 1]; rfl
    obtain ⟨gb, hgb⟩ : ∃ g, W1.heap.size = g := ⟨_, rfl⟩
    have hgl := hbx.2.2
    have q1 : Rd W2 W2.heap.size 1 A n (by8 xs) := (hr.below hb02 (Nat.le_refl _)).more hb02.size
    have q2 : Rd W2 W2.heap.size 1 (some ⟨w.heap.size, 0, none⟩) 2 (by8 [lo, hi]) := (hl.below hb2 (Nat.le_refl _)).more hb2.size
    rw [hgb] at k0 k1 hgl ⊢
    obtain ⟨A2, hA2⟩ : ∃ A2 : Option Addr, some ⟨w.heap.size, 0, none⟩ = A2 := ⟨_, rfl⟩
    rw [hA2] at k1 q2
    refine (concat_two gb 2 A A2 n c 2 2 xs [lo, hi] W2 k0 k1 hgl q1 q2 hn (by omega) (by omega)).mono ?_
    rintro e w' ⟨v, rfl, ho, hb⟩
    exact ⟨v, rfl, own_mono ho hb02.size, ext_trans hb02 hb⟩
  have hW3 : Calls Try.prog 49 #[.slice (some ⟨w.heap.size + 1, 0, none⟩) 2 2] ((w.alloc (.cells #[.int .u8 lo, .int .u8 hi] 5)).alloc (.cells #[.slice A n c, .slice (some ⟨w.heap.size, 0, none⟩) 2 2] 22)) fun e w' => ∃ v, e = .returned v ∧ w'.ownsRow w.heap.size 5 1 v (n + 2) (by8 (xs ++ [lo, hi])) ∧ Below w.heap.size w w' := by
    have h := hW _ _ rfl rfl
    rw [World.size_alloc] at h
    exact h
  have HW := Lib.hid hW3
  clear hr hx hz hcb hW hW3 hzb
  go_enter Try.func24, Try.ntmps24
  go_wp2_with fail
  refine (HS.out _ HR.out).mono ?_
  rintro e w' ⟨rfl, rfl⟩
  go_wp2_with fail
  refine HW.out.mono ?_
  rintro e w' ⟨v, rfl, ho, hb⟩
  go_wp2
  go_ret
  exact ⟨v, rfl, by rw [HCB.out]; exact ho, hb⟩
set_option maxHeartbeats 2000000 in
/-- Check of bytes that end with their checksum. -/
theorem crcCheck_yes (xs : List Int) (A : Option Addr) (n c : Nat) (w : World) (hr : Rd w w.heap.size 1 A (n + 2) (by8 (xs ++ crcB xs))) (hx : ∀ x ∈ xs, 0 ≤ x ∧ x ≤ 255) (hn : xs.length = n) (hn2 : n ≤ 900) (hc : n + 2 ≤ c) (hcm : c ≤ maxLen) :
    Calls Try.prog 34 #[.slice A (n + 2) c] w fun e w' => e = .returned (.bool true) ∧ w = w' := by
  have hr0 : Rd w w.heap.size 1 A n (by8 xs) := by
    have h := hr.take (k := n) (by omega)
    rw [Nat.mul_one, by8, ← List.map_take, List.take_left' hn] at h
    exact h
  have HS := Lib.hid (crcSum_any xs A n c w.heap.size w hr0 hx (by omega))
  obtain ⟨b, off, rfl, hb, h0, z0⟩ := by_at hr n (by omega)
  obtain ⟨b', off', e', _, h1, z1⟩ := by_at hr (n + 1) (by omega)
  injection e' with e'
  injection e' with e1 e2
  subst e1 e2
  have hzb := crcL_bd xs
  obtain ⟨z, hz⟩ : ∃ z, crcL xs = z := ⟨_, rfl⟩
  have g0 : (xs ++ crcB xs)[n] = z % 256 := by
    rw [List.getElem_append_right (by omega)]; simp [crcB, hn, hz]
  have g1 : (xs ++ crcB xs)[n + 1] = z / 256 := by
    rw [List.getElem_append_right (by omega)]; simp [crcB, hn, hz]
  rw [g0] at z0
  rw [g1] at z1
  rw [hz] at HS hzb
  have e1 : IntKind.u8.wrap z = z % 256 := u8_wrap z
  have e2 : IntKind.u8.wrap (z / 256) = z / 256 := by rw [u8_wrap]; omega
  have e3 : IntKind.u16.wrap (z / 256) = z / 256 := by rw [show IntKind.u16.wrap (z / 256) = z / 256 % 65536 by simp [IntKind.wrap, IntKind.bits, IntKind.signed]]; omega
  have e4 : z / 256 % 256 = z / 256 := by omega
  have f1 : IntKind.i64.wrap ((n : Int) + 2 - 2) = (n : Int) := by rw [IntWalk.i64_in _ ⟨by omega, by omega⟩]; omega
  have hnc : n ≤ c := by omega
  have hc63 : c ≤ 9223372036854775807 := by unfold maxLen at hcm; omega
  clear hr hx hn hr0 h0 h1 g0 g1 hz hcm
  go_enter Try.func34, Try.ntmps34
  go_wp2_with fail
  refine HS.out.mono ?_
  rintro e w' ⟨rfl, rfl⟩
  go_wp2
  go_ret
  exact ⟨rfl, rfl⟩

theorem apossible_any (u : Int) (w : World) : Calls Try.prog 23 #[.int .i64 u] w fun e w' => e = .returned (.bool (decide (1 ≤ u ∧ u ≤ 247))) ∧ w = w' := by
  go_enter Try.func23, Try.ntmps23
  go_wp2
  all_goals (go_ret; simp_all; try omega)
/-- A frame: unit, PDU, checksum. -/
def frameL (u : Int) (xs : List Int) : List Int := (u :: xs) ++ crcB (u :: xs)
theorem frameL_len (u : Int) (xs : List Int) : (frameL u xs).length = xs.length + 3 := by simp [frameL, crcB]
theorem crcB_bd (xs : List Int) : ∀ x ∈ crcB xs, 0 ≤ x ∧ x ≤ 255 := by
  have h := crcL_bd xs
  intro x hx
  simp only [crcB, List.mem_cons, List.not_mem_nil, or_false] at hx
  rcases hx with rfl | rfl <;> omega
theorem frameL_bd (u : Int) (xs : List Int) (hu : 0 ≤ u ∧ u ≤ 255) (hx : ∀ x ∈ xs, 0 ≤ x ∧ x ≤ 255) : ∀ x ∈ frameL u xs, 0 ≤ x ∧ x ≤ 255 := by
  intro x h
  rw [frameL, List.mem_append, List.mem_cons] at h
  rcases h with (rfl | h) | h
  · exact hu
  · exact hx x h
  · exact crcB_bd _ x h
set_option maxRecDepth 100000 in
set_option maxHeartbeats 2000000 in
theorem aduBuild_any (u : Int) (xs : List Int) (A : Option Addr) (n c : Nat) (w : World) (hu : 1 ≤ u ∧ u ≤ 247) (hr : Rd w w.heap.size 1 A n (by8 xs)) (hx : ∀ x ∈ xs, 0 ≤ x ∧ x ≤ 255) (hn : 1 ≤ n) (hn2 : n ≤ 253) :
    Calls Try.prog 9 #[.int .i64 u, .slice A n c] w fun e w' => ∃ v, e = .returned (.tuple #[v, .int .i64 0]) ∧ w'.ownsRow w.heap.size 5 1 v (n + 3) (by8 (frameL u xs)) ∧ Below w.heap.size w w' := by
  have HP := Lib.hid (fun W => (decide_eq_true hu) ▸ apossible_any u W)
  have e1 : IntKind.u8.wrap u = u := by rw [u8_wrap]; omega
  have d1 : decide ((n : Int) < 1) = false := by simp; omega
  have d2 : decide (n < 1) = false := by simp; omega
  have d3 : decide ((253 : Int) < (n : Int)) = false := by simp; omega
  have d4 : decide (253 < n) = false := by simp; omega
  have HR := Lib.hid hr
  have HA := Lib.hid (fun (W : World) (v : Value) (c' : Nat) (A' : Option Addr) (hb : Below w.heap.size w W) (hr : Rd W W.heap.size 1 A' (1 + n) (by8 (u :: xs))) => crcAppend_any (u :: xs) A' (1 + n) c' W hr (fun x h => by
    rcases List.mem_cons.1 h with rfl | h
    · omega
    · exact hx x h) (by omega) (by omega))
  clear hr hx hu
  go_enter Try.func9, Try.ntmps9
  go_wp2_with fail
  refine (HP.out _).mono ?_
  rintro e w' ⟨rfl, rfl⟩
  go_upto_region 5 with fail
  go_wp2_with (at_builtin; refine wpList_appR (.tmp 21) (.tmp 22) 22 w.heap.size 5 _ 1 1 _ 1 (by8 [u]) w.heap.size A n c (by8 xs) Try.underlying22 byteInfo rfl (by decide) rfl rfl rfl rfl (World.ownsRow_lit _ _ 1 (Nat.le_refl _) (by simp [maxLen]) rfl) (HR.out.below ((Below.refl _ _).alloc (Nat.le_refl _) _) (Nat.le_refl _)) (one_ints _ _) (by omega) (by omega) (by simp) ?_; intro v1 w2 hown1 hg1 hb2; obtain ⟨A1, c1, hv1, _, hR1⟩ := own_form hown1; subst hv1; have HB2 := Lib.hid (((Below.refl _ w).alloc (Nat.le_refl _) _).trans hb2); have HR1 := Lib.hid (show Rd w2 w2.heap.size 1 A1 (1 + n) (by8 (u :: xs)) from hR1); clear hown1 hg1 hb2 hR1)
  refine (HA.out _ (.slice A1 (1 + n) c1) c1 A1 HB2.out HR1.out).mono ?_
  rintro e w3 ⟨v, rfl, ho, hb3⟩
  go_wp2
  go_ret2
  refine ⟨v, rfl, ?_, ext_trans HB2.out hb3⟩
  have h := own_mono ho HB2.out.size
  rw [show n + 3 = 1 + n + 2 by omega]
  exact h

theorem Rd.mid {w : World} {B n : Nat} {A : Option Addr} {xs : List Int} (h : Rd w B 1 A n (by8 xs)) (i k : Nat) (hk : i + k ≤ n) (b off : Nat) (hA : A = some ⟨b, off, none⟩) : Rd w B 1 (some ⟨b, off + i, none⟩) k (by8 ((xs.drop i).take k)) := by
  have hl : xs.length = n := by have := h.1; simpa using this
  refine ⟨by simp; omega, fun h0 => ?_⟩
  obtain ⟨b', off', e, hb, hc⟩ := h.2 (by omega)
  rw [hA] at e
  injection e with e
  injection e with e1 e2
  subst e1 e2
  refine ⟨b, off + i, rfl, hb, fun j v hv => ?_⟩
  have hj : j < k := by
    rcases Nat.lt_or_ge j k with h | h
    · exact h
    · simp only [by8, List.map_take, List.getElem?_take] at hv
      rw [if_neg (by omega)] at hv; cases hv
  have hv2 : (by8 xs)[i + j]? = some v := by
    simp only [by8, List.map_take, List.map_drop, List.getElem?_take, if_pos hj, List.getElem?_drop] at hv
    exact hv
  have := hc (i + j) v hv2
  rwa [← Nat.add_assoc] at this
set_option maxRecDepth 100000 in
set_option maxHeartbeats 2000000 in
theorem aduSplit_yes (u : Int) (xs : List Int) (A : Option Addr) (n c : Nat) (w : World) (hu : 1 ≤ u ∧ u ≤ 247) (hr : Rd w w.heap.size 1 A (n + 3) (by8 (frameL u xs))) (hx : ∀ x ∈ xs, 0 ≤ x ∧ x ≤ 255) (hl : xs.length = n) (hn : 1 ≤ n) (hn2 : n ≤ 253) (hc : n + 3 ≤ c) (hcm : c ≤ maxLen) :
    Calls Try.prog 14 #[.slice A (n + 3) c] w fun e w' => ∃ v, e = .returned (.tuple #[.int .i64 u, v, .int .i64 0]) ∧ w'.ownsRow w.heap.size 5 1 v n (by8 xs) ∧ Below w.heap.size w w' := by
  have HP := Lib.hid (fun W => (decide_eq_true hu) ▸ apossible_any u W)
  have hbd : ∀ x ∈ u :: xs, 0 ≤ x ∧ x ≤ 255 := fun x h => by
    rcases List.mem_cons.1 h with rfl | h
    · omega
    · exact hx x h
  have HC := Lib.hid (crcCheck_yes (u :: xs) A (n + 1) c w (by rw [show n + 1 + 2 = n + 3 by omega]; exact hr) hbd (by simp [hl]) (by omega) (by omega) hcm)
  obtain ⟨b, off, rfl, hb, h0, z0⟩ := by_at hr 0 (by omega)
  have g0 : (frameL u xs)[0] = u := rfl
  rw [g0, Nat.add_zero] at z0
  have hmid := hr.mid 1 n (by omega) b off rfl
  have hm2 : ((frameL u xs).drop 1).take n = xs := by
    rw [frameL, List.cons_append, List.drop_one, List.tail_cons, List.take_left' hl]
  rw [hm2] at hmid
  have HCL := Lib.hid (fun (W : World) (h : Below w.heap.size w W) => clone_any (some ⟨b, off + 1, none⟩) n (c - 1) w.heap.size xs W (hmid.below h (Nat.le_refl _)) (by omega))
  have d1 : decide (((n : Int) + 3) < 4) = false := by simp; omega
  have d2 : decide (n + 3 < 4) = false := by simp; omega
  have d3 : decide ((256 : Int) < (n : Int) + 3) = false := by simp; omega
  have d4 : decide (256 < n + 3) = false := by simp; omega
  have f1 : IntKind.i64.wrap ((n : Int) + 3 - 2) = (n : Int) + 1 := by rw [IntWalk.i64_in _ ⟨by omega, by omega⟩]; omega
  have e1 : IntKind.i64.wrap u = u := IntWalk.i64_in _ ⟨by omega, by omega⟩
  have hc63 : c ≤ 9223372036854775807 := by unfold maxLen at hcm; omega
  clear hr hx hu hl h0 g0 hmid hm2 hbd hcm
  go_enter Try.func14, Try.ntmps14
  go_wp2_with fail
  refine HC.out.mono ?_
  rintro e w' ⟨rfl, rfl⟩
  go_wp2_with fail
  refine (HP.out _).mono ?_
  rintro e w' ⟨rfl, rfl⟩
  go_upto_region 7 with fail
  have hcc : c ≠ 1 := by omega
  have hcc2 : ¬ (c = 1) := by omega
  have hnc : n + 1 ≤ c := by omega
  have h1n : 1 ≤ n + 1 := by omega
  have k1 : (0 : Int) < (n : Int) + 3 := by omega
  have k2 : (0 : Int) ≤ (n : Int) + 1 := by omega
  have k3 : (n : Int) + 1 ≤ (c : Int) := by omega
  have k4 : (1 : Int) ≤ (n : Int) + 1 := by omega
  have hS : w.drew.cell? ⟨b, off, none⟩ = some (.int .u8 u) ∧ True ∧ True := ⟨z0, trivial, trivial⟩
  refine rgs_start (fun w' => w'.cell? ⟨b, off, none⟩ = some (.int .u8 u) ∧ True ∧ True) (by kernel_rfl) ?_
  refine rgs_t (v := ?_) (some 25) 0 (by kernel_rfl) rfl rfl (by assumption) (.inl ⟨by rfl, fun w' hw => ?_⟩) ?_
  rotate_left
  · obtain ⟨q1, q2, q3⟩ := hw; go_simp <;> with_reducible rfl
  try simp only [Act.put, List.setIfInBounds_toArray, List.set_cons_zero, List.set_cons_succ]
  refine rgs_t (v := ?_) (some 26) 1 (by kernel_rfl) rfl rfl (by assumption) (.inl ⟨by rfl, fun w' hw => ?_⟩) ?_
  rotate_left
  · obtain ⟨q1, q2, q3⟩ := hw; go_simp <;> with_reducible rfl
  try simp only [Act.put, List.setIfInBounds_toArray, List.set_cons_zero, List.set_cons_succ]
  refine rgs_t (v := ?_) (some 27) 2 (by kernel_rfl) rfl rfl (by assumption) (.inl ⟨by rfl, fun w' hw => ?_⟩) ?_
  rotate_left
  · obtain ⟨q1, q2, q3⟩ := hw; go_simp <;> with_reducible rfl
  try simp only [Act.put, List.setIfInBounds_toArray, List.set_cons_zero, List.set_cons_succ]
  refine rgs_t (v := ?_) (some 28) 3 (by kernel_rfl) rfl rfl (by assumption) (.inl ⟨by rfl, fun w' hw => ?_⟩) ?_
  rotate_left
  · obtain ⟨q1, q2, q3⟩ := hw; go_simp <;> with_reducible rfl
  try simp only [Act.put, List.setIfInBounds_toArray, List.set_cons_zero, List.set_cons_succ]
  refine rgs_t (v := ?_) (some 29) 4 (by kernel_rfl) rfl rfl (by assumption) (.inl ⟨by rfl, fun w' hw => ?_⟩) ?_
  rotate_left
  · obtain ⟨q1, q2, q3⟩ := hw; go_simp <;> with_reducible rfl
  try simp only [Act.put, List.setIfInBounds_toArray, List.set_cons_zero, List.set_cons_succ]
  refine rgs_t (v := ?_) (some 30) 5 (by kernel_rfl) rfl rfl (by assumption) (.inl ⟨by rfl, fun w' hw => ?_⟩) ?_
  rotate_left
  · obtain ⟨q1, q2, q3⟩ := hw; go_simp <;> with_reducible rfl
  try simp only [Act.put, List.setIfInBounds_toArray, List.set_cons_zero, List.set_cons_succ]
  refine rgs_t (v := ?_) (some 31) 6 (by kernel_rfl) rfl rfl (by assumption) (.inl ⟨by rfl, fun w' hw => ?_⟩) ?_
  rotate_left
  · obtain ⟨q1, q2, q3⟩ := hw; go_simp <;> with_reducible rfl
  try simp only [Act.put, List.setIfInBounds_toArray, List.set_cons_zero, List.set_cons_succ]
  refine rgs_t (v := ?_) (some 32) 7 (by kernel_rfl) rfl rfl (by assumption) (.inl ⟨by rfl, fun w' hw => ?_⟩) ?_
  rotate_left
  · obtain ⟨q1, q2, q3⟩ := hw; go_simp <;> with_reducible rfl
  try simp only [Act.put, List.setIfInBounds_toArray, List.set_cons_zero, List.set_cons_succ]
  refine rgs_t (v := ?_) (some 33) 8 (by kernel_rfl) rfl rfl (by assumption) (.inl ⟨by rfl, fun w' hw => ?_⟩) ?_
  rotate_left
  · obtain ⟨q1, q2, q3⟩ := hw; go_simp <;> with_reducible rfl
  try simp only [Act.put, List.setIfInBounds_toArray, List.set_cons_zero, List.set_cons_succ]
  refine rgs_c 9 (by kernel_rfl) rfl (by rfl) (fun K hK => ?_)
  go_simp
  refine (HCL.out _ (below_drew (Below.refl _ _))).mono ?_
  rintro e w3 ⟨v, rfl, ho, hb3⟩
  have HO := Lib.hid ho
  have HB3 := Lib.hid (show Below w.heap.size w w3 from (below_drew (Below.refl _ _)).trans hb3)
  have hS1 : w3.cell? ⟨b, off, none⟩ = some (.int .u8 u) ∧ True ∧ True := ⟨(HB3.out.cell (p := ⟨b, off, none⟩) hb).trans z0, trivial, trivial⟩
  refine hK _ _ hS1 ?_
  clear hK K
  try simp only [Act.put, List.setIfInBounds_toArray, List.set_cons_zero, List.set_cons_succ]
  refine rgs_t (v := ?_) (some 2) 10 (by kernel_rfl) rfl rfl (by assumption) (.inl ⟨by rfl, fun w' hw => ?_⟩) ?_
  rotate_left
  · obtain ⟨q1, q2, q3⟩ := hw; go_simp <;> with_reducible rfl
  try simp only [Act.put, List.setIfInBounds_toArray, List.set_cons_zero, List.set_cons_succ]
  refine rgs_t (v := ?_) (some 3) 11 (by kernel_rfl) rfl rfl (by assumption) (.inl ⟨by rfl, fun w' hw => ?_⟩) ?_
  rotate_left
  · obtain ⟨q1, q2, q3⟩ := hw; go_simp <;> with_reducible rfl
  try simp only [Act.put, List.setIfInBounds_toArray, List.set_cons_zero, List.set_cons_succ]
  refine rgs_t (v := ?_) (some 4) 12 (by kernel_rfl) rfl rfl (by assumption) (.inl ⟨by rfl, fun w' hw => ?_⟩) ?_
  rotate_left
  · obtain ⟨q1, q2, q3⟩ := hw; go_simp <;> with_reducible rfl
  try simp only [Act.put, List.setIfInBounds_toArray, List.set_cons_zero, List.set_cons_succ]
  refine rgs_d (by kernel_rfl) ?_
  go_wp2
  exact bodyPost_ret (v := .tuple #[.int .i64 u, v, .int .i64 0]) (by simp [results, Try.results14, go_sem]) rfl ⟨v, rfl, HO.out, HB3.out⟩
end Go.Proofs.Ytoliplochipoeaa

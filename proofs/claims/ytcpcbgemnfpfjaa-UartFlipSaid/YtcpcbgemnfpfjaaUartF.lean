/- The law UartFlip as a contract. -/
import Derived.Test.YtcpcbgemnfpfjaaUartM
import Derived.Test.YtcpcbgemnfpfjaaUartP
import Derived.Test.YtcpcbgemnfpfjaaMake
namespace Go.Proofs.Ytcpcbgemnfpfjaa
open Go.RowKit

set_option maxRecDepth 100000 in
set_option maxHeartbeats 1000000 in
theorem flip_any (b : Nat) (hb : b ≤ 255) (p0 a0 : Int) (w : World) : Calls Try.prog 5 #[.int .u8 b, .int .i64 p0, .int .i64 a0] w fun e w' => e = .returned (.bool true) ∧ Below w.heap.size w w' := by
  obtain ⟨p, hp⟩ : ∃ p, p0 % 3 = p := ⟨_, rfl⟩
  obtain ⟨q, hq⟩ : ∃ q, a0 % 10 = q := ⟨_, rfl⟩
  have hp1 : 0 ≤ p ∧ p ≤ 2 := by omega
  have hq1 : 0 ≤ q ∧ q ≤ 9 := by omega
  have M3 := fun w => mod_any p0 3 (by omega) (by omega) w
  have M10 := fun w => mod_any a0 10 (by omega) (by omega) w
  rw [hp] at M3
  rw [hq] at M10
  clear hp hq
  obtain ⟨k, rfl⟩ := Int.eq_ofNat_of_zero_le hq1.1
  have hk : k ≤ 9 := by omega
  have HM3 := Lib.hid M3; have HM10 := Lib.hid M10; clear M3 M10 hq1
  obtain ⟨x, hx, hxb⟩ := flip_dec b hb p hp1 (k + 1) (by omega)
  have HX := Lib.hid hx; clear hx
  have HL := Lib.hid (enc_length b p hp1)
  obtain ⟨hpa, hpb⟩ := hp1
  have HXB := Lib.hid hxb; clear hxb
  go_enter Try.func5, Try.ntmps5
  go_wp2_with fail
  refine (HM3.out _).mono ?_
  rintro e w' ⟨rfl, rfl⟩
  go_wp2_with fail
  refine (HM10.out _).mono ?_
  rintro e w' ⟨rfl, rfl⟩
  go_wp2_with fail
  refine (refEncode_eq b hb p _ 11 rfl HL.out _).mono ?_
  rintro e w1 ⟨A, c, rfl, _, hR, hb1⟩
  have hbt : (encode b p)[k + 1]? = some (bt (encode b p) (k + 1)) := by simp [bt, List.getD, List.getElem?_eq_getElem (show k + 1 < (encode b p).length by rw [HL.out]; omega)]
  have HBT := Lib.hid hbt; clear hbt
  have hsz1 := hb1.size
  go_wp2_with (at_builtin; refine wpList_appR (.const (.slice none 0 0)) (.tmp 19) 22 w1.heap.size 4 _ 1 1 _ 0 [] w1.heap.size A 11 c _ Try.underlying22 boolInfo rfl (by decide) rfl rfl rfl rfl (World.ownsRow_nil _ _ _ _) hR (one_bools _) (by omega) (by omega) (Nat.le_refl _) ?_; intro v2 w2 hown2 hg2 hb2)
  clear hg2
  simp only [Nat.zero_add, List.nil_append] at hown2
  obtain ⟨g, cap, rfl, hgw, hglt⟩ := hown2.form (by omega)
  have hcell : w2.cell? ⟨g, 1 + k, none⟩ = some (.bool (bt (encode b p) (k + 1))) := by
    rw [hown2.cellAt (1 + k) (by omega)]; simp [Nat.add_comm 1 k, HBT.out]
  have hfz := hown2.frozenAt (1 + k)
  have ek : ((1 : Int) + (k : Int)).toNat = 1 + k := by omega
  have hcell' : w2.cell? ⟨g, ((1 : Int) + (k : Int)).toNat, none⟩ = some (.bool (bt (encode b p) (k + 1))) := by rw [ek]; exact hcell
  have hfz' : w2.frozen? ⟨g, ((1 : Int) + (k : Int)).toNat, none⟩ = false := by rw [ek]; exact hfz

  have EK := Lib.hid ek; clear ek
  have hk10 : ((1 : Int) + k) < 11 := by omega
  have hk0 : 0 ≤ ((1 : Int) + k) := by omega
  go_wp2_with fail
  go_simp
  go_wp2_with fail
  have hst := (hown2.stored (1 + k) (.bool (!bt (encode b p) (k + 1)))).1
  have hR3 := Rd.of_own hst
  have e3 : (List.map Value.bool (encode b p)).set (1 + k) (.bool (!bt (encode b p) (k + 1))) = (flipAt b p (k + 1)).map Value.bool := by
    rw [flipAt, List.map_set, Nat.add_comm 1 k]
  rw [e3] at hR3
  have hb3 : Below w.heap.size w (w2.setCell ⟨g, 1 + k, none⟩ (.bool (!bt (encode b p) (k + 1)))) := (ext_trans hb1 hb2).setCell (by show w.heap.size ≤ g; omega) _
  clear e3 hst hcell hcell' hfz hfz' hown2
  refine (decode_eq _ 11 _ cap _ p x (wantF p (k + 1)) true _ hR3 HX.out).mono ?_
  rintro e w4 ⟨rfl, hb4⟩
  have HB3 := Lib.hid hb3; clear hb3
  have h3 : p = 0 ∨ 1 ≤ p := by omega
  have hk3 : k = 9 ∨ k = 8 ∨ k ≤ 7 := by omega
  rcases h3 with h3 | h3
  · rcases hk3 with hk3 | hk3 | hk3
    · have hxb : decide (9 ≤ k + 1) = true := by simp; omega
      have hxb' : ((x : Int) == (b : Int)) = true := by have := HXB.out; rw [hxb] at this; rw [beq_nat_int]; exact this.symm
      have ew : wantF p (k + 1) = 2 := by simp [wantF]; omega
      rw [ew]
      have t10 : (((1 : Int) + (k : Int)) == 10) = true := by simp; omega
      have t9 : (((1 : Int) + (k : Int)) == 9) = false := by simp; omega
      have tp : (p == 0) = true := by simp; omega
      have tg : 9 ≤ (1 : Int) + (k : Int) := by omega
      clear ew hxb h3 hk3
      go_wp2_with fail
      refine (awake_any _).mono ?_
      rintro e w5 ⟨rfl, hb5⟩
      go_wp2
      go_ret
      exact ⟨rfl, ext_trans (ext_trans HB3.out hb4) hb5⟩
    · have hxb : decide (9 ≤ k + 1) = true := by simp; omega
      have hxb' : ((x : Int) == (b : Int)) = true := by have := HXB.out; rw [hxb] at this; rw [beq_nat_int]; exact this.symm
      have ew : wantF p (k + 1) = 2 := by simp [wantF]; omega
      rw [ew]
      have t10 : (((1 : Int) + (k : Int)) == 10) = false := by simp; omega
      have t9 : (((1 : Int) + (k : Int)) == 9) = true := by simp; omega
      have tp : (p == 0) = true := by simp; omega
      have tg : 9 ≤ (1 : Int) + (k : Int) := by omega
      clear ew hxb h3 hk3
      go_wp2_with fail
      refine (awake_any _).mono ?_
      rintro e w5 ⟨rfl, hb5⟩
      go_wp2
      go_ret
      exact ⟨rfl, ext_trans (ext_trans HB3.out hb4) hb5⟩
    · have hxb : decide (9 ≤ k + 1) = false := by simp; omega
      have hxb' : ((x : Int) == (b : Int)) = false := by have := HXB.out; rw [hxb] at this; rw [beq_nat_int]; exact this.symm
      have ew : wantF p (k + 1) = 0 := by simp [wantF]; omega
      rw [ew]
      have t10 : (((1 : Int) + (k : Int)) == 10) = false := by simp; omega
      have t9 : (((1 : Int) + (k : Int)) == 9) = false := by simp; omega
      have tp : (p == 0) = true := by simp; omega
      have tg : decide (9 ≤ (1 : Int) + (k : Int)) = false := by simp; omega
      clear ew hxb h3 hk3
      go_wp2_with fail
      refine (awake_any _).mono ?_
      rintro e w5 ⟨rfl, hb5⟩
      go_wp2
      go_ret
      exact ⟨rfl, ext_trans (ext_trans HB3.out hb4) hb5⟩
  · rcases hk3 with hk3 | hk3 | hk3
    · have hxb : decide (9 ≤ k + 1) = true := by simp; omega
      have hxb' : ((x : Int) == (b : Int)) = true := by have := HXB.out; rw [hxb] at this; rw [beq_nat_int]; exact this.symm
      have ew : wantF p (k + 1) = 2 := by simp [wantF]; omega
      rw [ew]
      have t10 : (((1 : Int) + (k : Int)) == 10) = true := by simp; omega
      have t9 : (((1 : Int) + (k : Int)) == 9) = false := by simp; omega
      have tp : (p == 0) = false := by simp; omega
      have tg : 9 ≤ (1 : Int) + (k : Int) := by omega
      clear ew hxb h3 hk3
      go_wp2_with fail
      refine (awake_any _).mono ?_
      rintro e w5 ⟨rfl, hb5⟩
      go_wp2
      go_ret
      exact ⟨rfl, ext_trans (ext_trans HB3.out hb4) hb5⟩
    · have hxb : decide (9 ≤ k + 1) = true := by simp; omega
      have hxb' : ((x : Int) == (b : Int)) = true := by have := HXB.out; rw [hxb] at this; rw [beq_nat_int]; exact this.symm
      have ew : wantF p (k + 1) = 1 := by simp [wantF]; omega
      rw [ew]
      have t10 : (((1 : Int) + (k : Int)) == 10) = false := by simp; omega
      have t9 : (((1 : Int) + (k : Int)) == 9) = true := by simp; omega
      have tp : (p == 0) = false := by simp; omega
      have tg : 9 ≤ (1 : Int) + (k : Int) := by omega
      clear ew hxb h3 hk3
      go_wp2_with fail
      refine (awake_any _).mono ?_
      rintro e w5 ⟨rfl, hb5⟩
      go_wp2
      go_ret
      exact ⟨rfl, ext_trans (ext_trans HB3.out hb4) hb5⟩
    · have hxb : decide (9 ≤ k + 1) = false := by simp; omega
      have hxb' : ((x : Int) == (b : Int)) = false := by have := HXB.out; rw [hxb] at this; rw [beq_nat_int]; exact this.symm
      have ew : wantF p (k + 1) = 1 := by simp [wantF]; omega
      rw [ew]
      have t10 : (((1 : Int) + (k : Int)) == 10) = false := by simp; omega
      have t9 : (((1 : Int) + (k : Int)) == 9) = false := by simp; omega
      have tp : (p == 0) = false := by simp; omega
      have tg : decide (9 ≤ (1 : Int) + (k : Int)) = false := by simp; omega
      clear ew hxb h3 hk3
      go_wp2_with fail
      refine (awake_any _).mono ?_
      rintro e w5 ⟨rfl, hb5⟩
      go_wp2
      go_ret
      exact ⟨rfl, ext_trans (ext_trans HB3.out hb4) hb5⟩

theorem flipI (b p a : Int) (hb : (Lit.int .u8 b).wf = true) (w : World) : Calls Try.prog 5 #[.int .u8 b, .int .i64 p, .int .i64 a] w fun e w' => e = .returned (.bool true) ∧ Below w.heap.size w w' := by
  have h := wf_u8 hb
  obtain ⟨n, rfl⟩ := Int.eq_ofNat_of_zero_le h.1
  exact flip_any n (by omega) p a w

end Go.Proofs.Ytcpcbgemnfpfjaa

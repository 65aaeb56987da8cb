/- The law's helper 'events': the walk for raw = false. -/
import Derived.Test.YthgapllfjllnfaaRcvG
set_option linter.unusedVariables false
set_option linter.unusedSimpArgs false
namespace Go.Proofs.Ythgapllfjllnfaa
open Go.RowKit

set_option maxRecDepth 100000 in
set_option maxHeartbeats 8000000 in
theorem events_acc (l : List Ev) (A : Option Addr) (n c : Nat) (w : World) (hr : Rd w w.heap.size 3 A n (evCells l)) (hn : n ≤ maxLen) :
    Calls Try.prog 10 #[.slice A n c, .bool false] w fun e w' => ∃ v, e = .returned v ∧ w'.ownsRow w.heap.size 42 3 v (l.take 60).length (evCells (accE 0 (l.take 60))) ∧ Below w.heap.size w w' := by
  unfold maxLen at hn
  have HR := Lib.hid hr
  have HL := Lib.hid hr.elen
  clear hr
  go_enter Try.func10, Try.ntmps10
  go_wp2_with fail
  go_loopw [5, 6, 7, 8] (fun lv av i xb x => ∃ (m : Nat) (Al : Option Addr) (cl : Nat), av = .int .i64 (lastA 0 (l.take m)) ∧ lv = .slice Al m cl ∧ i = .int .i64 m ∧ m ≤ n ∧ m ≤ 60 ∧ x.ownsRow w.heap.size 42 3 (.slice Al m cl) m (evCells (accE 0 (l.take m))) ∧ Below w.heap.size w x) (fun _ _ i _ _ => n - (intOf i).toNat)
  case atStart => exact ⟨0, none, 0, rfl, rfl, rfl, by omega, by omega, ⟨rfl, .inl ⟨rfl, rfl⟩⟩, Below.refl _ _⟩
  case round =>
    obtain ⟨m, Al, cl, rfl, rfl, rfl, hmn, hm60, hown, hbr⟩ := hrel
    obtain ⟨am, ham⟩ : ∃ am, lastA 0 (l.take m) = am := ⟨_, rfl⟩
    have hab := lastA_bd 0 (l.take m)
    have hl60 : (l.take m).length ≤ 60 := by simp; omega
    rw [ham] at hab ⊢
    have HAM := Lib.hid ham
    clear ham
    have HOW := Lib.hid hown
    have HBR := Lib.hid hbr
    clear hown hbr
    by_cases hlt : m < n ∧ m < 60
    · obtain ⟨h1, h2⟩ := hlt
      have d1 : decide ((m : Int) < (n : Int)) = true := by simp; omega
      have d1n : decide (m < n) = true := by simpa using h1
      have d2 : decide ((m : Int) < 60) = true := by simp; omega
      obtain ⟨b0, off, rfl, hbl, hk', c0, c1, c2⟩ := ev_at (HR.out.below HBR.out (Nat.le_refl _)) m h1
      have htk := List.take_succ_eq_append_getElem hk'
      obtain ⟨ev, hev⟩ : ∃ ev, l[m] = ev := ⟨_, rfl⟩
      rw [hev] at c0 c1 c2 htk
      obtain ⟨at_, val, fl⟩ := ev
      dsimp only at c0 c1 c2
      have HTK := Lib.hid htk
      clear hev htk
      have hsz := HBR.out.size
      obtain ⟨r, hrr⟩ : ∃ r, at_ % 20000 = r := ⟨_, rfl⟩
      have HMo := Lib.hid (fun W => mod_eq at_ 20000 r (by omega) (by omega) hrr W)
      have hr0 : 0 ≤ r ∧ r < 20000 := by omega
      have k1 : IntKind.i64.wrap (am + r) = am + r := IntWalk.i64_in _ ⟨by omega, by omega⟩
      have HRR := Lib.hid hrr
      clear hrr
      have HBx := Lib.hid (Box.alloc_ (w := wr) (cs := #[.int .i64 at_, .int .u8 val, .int .i64 fl]) (e := 42))
      obtain ⟨qx, zx, lx⟩ := HBx.out
      go_wp2_with fail
      refine (HMo.out _).mono ?_
      rintro e w' ⟨rfl, rfl⟩
      go_wp2_with (at_builtin; refine wpList_appN (.tmp 32) (.tmp 34) 24 w.heap.size 42 _ 3 24 _ m (evCells (accE 0 (l.take m))) (wr.heap.size + 2) (some ⟨wr.heap.size + 1, 0, none⟩) 1 1 _ Try.underlying24 evInfo rfl (by decide) rfl rfl rfl rfl ((HOW.out.alloc _).alloc _) (by have h := Rd.lit (w := wr.alloc (.cells #[.int .i64 (am + r), .int .u8 val, .int .i64 fl] 42)) (size := 3) (n := 1) (cs := #[.int .i64 (am + r), .int .u8 val, .int .i64 fl]) (e := 42) (fz := (0, 0)) (B := wr.heap.size + 2) rfl (by simp); simp at h; exact h) (one_ev _ _ _) (by omega) (by omega) (by simp; omega) ?_; intro vo' w6 hown6 hg6 hn6 hb6)
      obtain ⟨A3, c3, hv3, _, _⟩ := own_form hown6
      subst hv3
      have HW6 := Lib.hid (show Below w.heap.size w w6 from ((HBR.out.alloc hsz (.cells #[.int .i64 (am + r), .int .u8 val, .int .i64 fl] 42)).alloc (by simp; omega) (.cells #[.int .i64 (am + r), .int .u8 val, .int .i64 fl] 42)).trans hb6)
      have HO6 := Lib.hid (show w6.ownsRow w.heap.size 42 3 (.slice A3 (m + 1) c3) (m + 1) (evCells (accE 0 (l.take (m + 1)))) by rw [HTK.out, accE_snoc, evCells_snoc, HAM.out, HRR.out]; exact hown6)
      clear hown6 hg6 hn6 hb6
      have HLA := Lib.hid (show lastA 0 (l.take (m + 1)) = am + r by rw [HTK.out, lastA_snoc, HAM.out, HRR.out])
      go_roundw
      case rel => exact ⟨m + 1, A3, c3, by rw [HLA.out], rfl, by go_num, by omega, by omega, HO6.out, HW6.out⟩
      case measure => simp [intOf]; omega
    · have hmin : (l.take 60).length = m ∧ l.take m = l.take 60 := by
        have := HL.out
        refine ⟨by simp; omega, ?_⟩
        rcases Nat.lt_or_ge m 60 with h | h
        · rw [List.take_of_length_le (by omega), List.take_of_length_le (by omega)]
        · rw [show m = 60 by omega]
      have HMN := Lib.hid hmin
      clear hmin
      by_cases h1 : m < n
      · have d1 : decide ((m : Int) < (n : Int)) = true := by simp; omega
        have d1n : decide (m < n) = true := by simpa using h1
        have d2 : decide ((m : Int) < 60) = false := by simp; omega
        clear hlt
        go_wp2
        go_ret
        exact ⟨_, rfl, by rw [HMN.out.1, ← HMN.out.2]; exact HOW.out, HBR.out⟩
      · have d1 : decide ((m : Int) < (n : Int)) = false := by simp; omega
        have d1n : decide (m < n) = false := by simpa using h1
        clear hlt
        go_wp2
        go_ret
        exact ⟨_, rfl, by rw [HMN.out.1, ← HMN.out.2]; exact HOW.out, HBR.out⟩
end Go.Proofs.Ythgapllfjllnfaa

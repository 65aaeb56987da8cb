/- Layer 25: the reference's map: add. -/
import Derived.Test.YtdkkfahnkenplaaNpR
set_option linter.unusedVariables false
set_option linter.unusedSimpArgs false
namespace Go.Proofs.Ytdkkfahnkenplaa
open Go.RowKit

/-- The row is the old one or a new one. -/
def RowNext (w : World) (row row' : Option Nat) : Prop := row' = row ∨ ∃ b, row' = some b ∧ w.heap.size ≤ b
theorem RowNext.trans {w w' : World} {r1 r2 r3 : Option Nat} (h : RowNext w r1 r2) (k : RowNext w' r2 r3) (hs : w.heap.size ≤ w'.heap.size) : RowNext w r1 r3 := by
  rcases k with rfl | ⟨b, rfl, hb⟩
  · exact h
  · exact .inr ⟨b, rfl, by omega⟩
theorem Chg.trans {a b c : World} {g : Nat} {row row' : Option Nat} (h : Chg a b g row) (hr : RowNext a row row') (k : Chg b c g row') : Chg a c g row := by
  refine ⟨k.1.trans h.1, k.2.1.trans h.2.1, k.2.2.1.trans h.2.2.1, Nat.le_trans h.2.2.2.1 k.2.2.2.1, fun i hi hg hrw => (k.2.2.2.2 i (Nat.lt_of_lt_of_le hi h.2.2.2.1) hg ?_).trans (h.2.2.2.2 i hi hg hrw)⟩
  rcases hr with rfl | ⟨b, rfl, hb⟩
  · exact hrw
  · intro e; injection e with e; omega
theorem Chg.set {a b : World} {g k : Nat} {row : Option Nat} {v : Value} (h : Chg a b g row) : Chg a (b.setCell ⟨g, k, none⟩ v) g row :=
  h.grown (one_set (one_refl b g) k v) (.inl rfl)
/-- The reference's map behind a call that changes it. -/
def RfTo (w : World) (h : Nat) (row : Option Nat) (S : Mst) (w' : World) : Prop := ∃ row', RfAt w' h row' S ∧ Chg w w' h row ∧ RowNext w row row'
theorem rints_snoc (ks : List Int) (q : Nat) (k : Int) : rints (ks ++ List.replicate q k) ++ [.int .i64 k] = rints (ks ++ List.replicate (q + 1) k) := by
  rw [List.replicate_succ', ← List.append_assoc]
  simp
set_option maxRecDepth 100000 in
set_option maxHeartbeats 4000000 in
theorem radd_any (S : Mst) (h : Nat) (row : Option Nat) (w : World) (hS : RfAt w h row S) (k : Int) (n : Nat) (hn : S.ks.length + n ≤ 100000) :
    Calls Try.prog 34 #[mptr h, .int .i64 k, .int .i64 n] w fun e w' => e = .returned (.tuple #[]) ∧ RfTo w h row { S with ks := S.ks ++ List.replicate n k } w' := by
  obtain ⟨tb, fs, N, M, mode, lo, hi, ks, qq⟩ := S
  dsimp only at hn ⊢
  obtain ⟨l, hl⟩ : ∃ l, ks.length = l := ⟨_, rfl⟩
  have HS := Lib.hid hS
  have HL := Lib.hid hl
  rw [hl] at hn
  clear hS hl
  go_enter Try.func34, Try.ntmps34
  go_wp2_with fail
  go_loopw [2] (fun i wr => ∃ q : Nat, q ≤ n ∧ i = .int .i64 ((n - q : Nat) : Int) ∧ RfTo w h row ⟨tb, fs, N, M, mode, lo, hi, ks ++ List.replicate q k, qq⟩ wr) (fun i _ => (intOf i).toNat)
  case atStart => exact ⟨0, by omega, rfl, row, by simpa using HS.out, Chg.refl _ _ _, .inl rfl⟩
  case round =>
    obtain ⟨q, hq, rfl, row2, ⟨v, hv1, hO, hB⟩, hC, hR⟩ := hrel
    obtain ⟨A, c, hv, _, _⟩ := own_form hO
    subst hv
    have hlen : (ks ++ List.replicate q k).length = l + q := by simp [HL.out]
    rw [hlen] at hO hB hv1
    have HO := Lib.hid hO
    have HB := Lib.hid hB
    have HC := Lib.hid hC
    have HR := Lib.hid hR
    have HV := Lib.hid hv1
    have hhl := hB.2.2
    clear hO hB hC hR hv1 hlen
    by_cases hlt : q < n
    · have d1 : decide ((0 : Int) < ((n - q : Nat) : Int)) = true := by simp; omega
      have d2 : decide (0 < n - q) = true := by simp; omega
      have e1 : IntKind.i64.wrap (((n - q : Nat) : Int) - 1) = ((n - (q + 1) : Nat) : Int) := by rw [IntWalk.i64_in _ ⟨by omega, by omega⟩]; omega
      obtain ⟨y, zz, lz⟩ := HB.out
      go_wp2_with (at_builtin; refine wpList_appN (.tmp 14) (.tmp 16) 24 (h + 1) 3 _ 1 8 _ (l + q) (rints (ks ++ List.replicate q k)) (wr.heap.size + 1) (some ⟨wr.heap.size, 0, none⟩) 1 1 _ Try.underlying24 rintInfo rfl (by decide) rfl rfl rfl rfl (own_box HO.out _) (Rd.lit rfl (Nat.lt_succ_self _)) (rone1 _) (by omega) (by omega) (by simp; omega) ?_; intro v1 w1 hown1 hg1 hn1 hb1; obtain ⟨A1, c1, hv1, _, _⟩ := own_form hown1; subst hv1; have hg2 : (wr.alloc (.cells #[.int .i64 k] 3)).grownBy w1 (Value.slice A (l + q) c).ownBlock := hg1; have hn2 : OwnNext (wr.alloc (.cells #[.int .i64 k] 3)) (Value.slice A (l + q) c) (Value.slice A1 (l + q + 1) c1) := hn1; have hne : some h ≠ (Value.slice A (l + q) c).ownBlock := (fun e => by have := (HO.out.lt h e.symm).1; omega); have HB1 := Lib.hid ((HB.out.alloc' (.cells #[.int .i64 k] 3)).row hg2 hne); have HO1 := Lib.hid hown1; have HG2 := Lib.hid hg2; have HN2 := Lib.hid hn2; clear hg1 hn1 hb1 hg2 hn2 hown1 hne y zz lz; obtain ⟨y, zz, lz⟩ := HB1.out)
      have hvb : (Value.slice A (l + q) c).ownBlock = row2 := HV.out
      have hb0 : Below wr.heap.size wr (wr.alloc (.cells #[.int .i64 k] 3)) := (Below.refl _ _).alloc (Nat.le_refl _) _
      have hc1 : Chg w w1 h row := (HC.out.below hb0).grown HG2.out (by rw [hvb]; exact HR.out.elim (fun e => .inr (.inl e)) (fun e => .inr (.inr e)))
      have hrn : RowNext w row (Value.slice A1 (l + q + 1) c1).ownBlock := by
        rcases HN2.out with e | ⟨b, e, hb⟩
        · rw [e, hvb]; exact HR.out
        · exact .inr ⟨b, e, by have := HC.out.2.2.2.1; have := hb0.size; omega⟩
      have hbx := HB1.out.set (k := 4) (v := .slice A1 (l + q + 1) c1) (cs' := #[.int .i64 tb, .int .i64 fs, .int .i64 N, .int .i64 M, .slice A1 (l + q + 1) c1, .int .i64 mode, .int .i64 lo, .int .i64 hi, .int .i64 qq]) (by simp) rfl
      have hox := ownsRow_setCell_below HO1.out (show (⟨h, 4, none⟩ : Addr).block < h + 1 from Nat.lt_succ_self _) (.slice A1 (l + q + 1) c1)
      go_roundw
      case rel =>
        refine ⟨q + 1, by omega, rfl, _, ⟨_, rfl, ?_, ?_⟩, hc1.set, hrn⟩
        · rw [← rints_snoc]
          simpa [HL.out, Nat.add_assoc] using hox
        · exact hbx
      case measure => simp [intOf]; omega
    · obtain rfl : q = n := by omega
      have d1 : decide ((0 : Int) < ((q - q : Nat) : Int)) = false := by simp
      go_wp2_with fail
      go_end0
      exact ⟨rfl, row2, ⟨_, HV.out, by rw [List.length_append, List.length_replicate, HL.out]; exact HO.out, by simpa [HL.out] using HB.out⟩, HC.out, HR.out⟩
end Go.Proofs.Ytdkkfahnkenplaa

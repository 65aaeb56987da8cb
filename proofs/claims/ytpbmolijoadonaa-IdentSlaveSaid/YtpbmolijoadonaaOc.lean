/- Outcomes: rows of nine cells; the statements' test 'Outcomes'. -/
import Derived.Test.YtpbmolijoadonaaReply
import Derived.Test.YtpbmolijoadonaaOpen
set_option linter.unusedVariables false
set_option linter.unusedSimpArgs false
namespace Go.Proofs.Ytpbmolijoadonaa
open Go.RowKit

structure Oc where
  V : Int
  F : Int
  E : Int
  dA : Option Addr
  dn : Nat
  dc : Nat
  C : Int
  L : Int
  M : Bool
  N : Int
  oA : Option Addr
  oc : Nat
  xs : List Int
  os : List Ob
def ocRow (o : Oc) : List Value := [.int .i64 o.V, .int .i64 o.F, .int .i64 o.E, .slice o.dA o.dn o.dc, .int .i64 o.C, .int .i64 o.L, .bool o.M, .int .i64 o.N, .slice o.oA o.os.length o.oc]
def ocCells (l : List Oc) : List Value := (l.map ocRow).flatten
theorem ocCells_get (l : List Oc) (k j : Nat) (hk : k < l.length) (hj : j < 9) : (ocCells l)[k * 9 + j]? = (ocRow l[k])[j]? := by
  unfold ocCells
  rw [flatten_get (size := 9) (by intro r hr; obtain ⟨o, _, rfl⟩ := List.mem_map.1 hr; rfl) k j (by simpa using hk) hj]
  simp
def Oc.ok (w : World) (B : Nat) (o : Oc) : Prop := Rd w B 1 o.dA o.dn (by8 o.xs) ∧ o.dn ≤ o.dc ∧ o.dc ≤ maxLen ∧ o.os.length ≤ o.oc ∧ o.oc ≤ maxLen ∧ (∀ x ∈ o.os, x.ok w B) ∧ Rd w B 2 o.oA o.os.length (obCells o.os) ∧ (∀ x ∈ o.xs, (Lit.int .u8 x).wf = true) ∧
  (Lit.int .i64 o.V).wf = true ∧ (Lit.int .i64 o.F).wf = true ∧ (Lit.int .i64 o.E).wf = true ∧ (Lit.int .i64 o.C).wf = true ∧ (Lit.int .i64 o.L).wf = true ∧ (Lit.int .i64 o.N).wf = true
def ocSmall (o : Oc) : Bool := decide (o.dn ≤ 300) && objSmall o.os
def outSmall (l : List Oc) (n : Nat) : Bool := l.all ocSmall && decide (l.length ≤ n)

theorem oc_cells {w : World} {B : Nat} {A : Option Addr} {l : List Oc} (hr : Rd w B 9 A l.length (ocCells l)) (k : Nat) (hk : k < l.length) :
    ∃ b off, A = some ⟨b, off, none⟩ ∧ b < B ∧ w.cell? ⟨b, off + k * 9, none⟩ = some (.int .i64 l[k].V) ∧ w.cell? ⟨b, off + k * 9 + 1, none⟩ = some (.int .i64 l[k].F) ∧ w.cell? ⟨b, off + k * 9 + 1 + 1, none⟩ = some (.int .i64 l[k].E) ∧
      w.cell? ⟨b, off + k * 9 + 1 + 2, none⟩ = some (.slice l[k].dA l[k].dn l[k].dc) ∧ w.cell? ⟨b, off + k * 9 + 1 + 3, none⟩ = some (.int .i64 l[k].C) ∧ w.cell? ⟨b, off + k * 9 + 1 + 4, none⟩ = some (.int .i64 l[k].L) ∧
      w.cell? ⟨b, off + k * 9 + 1 + 5, none⟩ = some (.bool l[k].M) ∧ w.cell? ⟨b, off + k * 9 + 1 + 6, none⟩ = some (.int .i64 l[k].N) ∧ w.cell? ⟨b, off + k * 9 + 1 + 7, none⟩ = some (.slice l[k].oA l[k].os.length l[k].oc) := by
  obtain ⟨b, off, e, hb, hc⟩ := hr.2 (by omega)
  have h := fun j (hj : j < 9) => ocCells_get l k j hk hj
  refine ⟨b, off, e, hb, ?_, ?_, ?_, ?_, ?_, ?_, ?_, ?_, ?_⟩
  · exact hc (k * 9 + 0) _ (h 0 (by omega))
  · exact hc (k * 9 + 1) _ (h 1 (by omega))
  · exact hc (k * 9 + 2) _ (h 2 (by omega))
  · exact hc (k * 9 + 3) _ (h 3 (by omega))
  · exact hc (k * 9 + 4) _ (h 4 (by omega))
  · exact hc (k * 9 + 5) _ (h 5 (by omega))
  · exact hc (k * 9 + 6) _ (h 6 (by omega))
  · exact hc (k * 9 + 7) _ (h 7 (by omega))
  · exact hc (k * 9 + 8) _ (h 8 (by omega))

set_option maxHeartbeats 400000 in
theorem outcomes_any (l : List Oc) (A : Option Addr) (c B n : Nat) (w : World) (hr : Rd w B 9 A l.length (ocCells l)) (hm : l.length ≤ maxLen) (hn : n ≤ 1000) (hok : ∀ o ∈ l, o.ok w w.heap.size) (b : Bool) (hb : outSmall l n = b) :
    Calls Try.prog 7 #[.slice A l.length c, .int .i64 n] w fun e w' => e = .returned (.bool b) ∧ Below w.heap.size w w' := by
  unfold maxLen at hm
  have hr := hr.fits (by decide)
  have HB := Lib.hid hb; have HR := Lib.hid hr; have HK := Lib.hid hok; clear hb hr hok
  go_enter Try.func7, Try.ntmps7
  go_wp2
  go_loopw [5] (fun i wr => ∃ k : Nat, k ≤ l.length ∧ i = .int .i64 k ∧ (l.take k).all ocSmall = true ∧ Below w.heap.size w wr) (fun i _ => l.length - (intOf i).toNat)
  case atStart => exact ⟨0, by omega, rfl, by simp, Below.refl _ _⟩
  case round =>
    obtain ⟨k, hk, rfl, hrel, hbw⟩ := hrel
    have HS := Lib.hid hrel; clear hrel
    by_cases hlt : k < l.length
    · obtain ⟨b', off, rfl, hlb, c0, c1, c2, c3, c4, c5, c6, c7, c8⟩ := oc_cells (HR.out.below hbw (Nat.le_refl _)) k hlt
      obtain ⟨_, _, _, o4, o5, _, o7, _⟩ := HK.out l[k] (List.getElem_mem hlt)
      obtain ⟨r, hr⟩ : ∃ r, ocSmall l[k] = r := ⟨_, rfl⟩
      have HP := Lib.hid (fun (W : World) (h : Rd W w.heap.size 2 l[k].oA l[k].os.length (obCells l[k].os)) => reply_any l[k].F l[k].E l[k].C l[k].L l[k].N l[k].M l[k].dA l[k].oA l[k].dn l[k].dc l[k].oc w.heap.size l[k].os r W h (by omega) hr)
      have HO := Lib.hid (o7.below hbw (Nat.le_refl _))
      have HZ := Lib.hid hr
      clear o7 o4 o5 hr
      cases r
      · have he : b = false := by
          rw [← HB.out, outSmall]
          have : l.all ocSmall = false := by
            rw [List.all_eq_false]; exact ⟨l[k], List.getElem_mem hlt, by rw [HZ.out]; simp⟩
          rw [this]; rfl
        subst he
        go_wp2_with fail
        refine (HP.out _ HO.out).mono ?_
        rintro e w1 ⟨rfl, hb1⟩
        go_wp2
        go_ret
        exact ⟨rfl, ext_trans hbw hb1⟩
      · have hnx : (l.take (k + 1)).all ocSmall = true := by
          rw [List.take_succ_eq_append_getElem hlt, List.all_append, HS.out]; simp [HZ.out]
        have HN := Lib.hid hnx; clear hnx
        go_wp2_with fail
        refine (HP.out _ HO.out).mono ?_
        rintro e w1 ⟨rfl, hb1⟩
        go_wp2
        exact ⟨⟨k + 1, by omega, by go_num, HN.out, ext_trans hbw hb1⟩, by simp [intOf]; omega⟩
    · obtain rfl : k = l.length := by omega
      have hs : b = decide (l.length ≤ n) := by
        rw [← HB.out, outSmall]
        have := HS.out
        rw [List.take_of_length_le (Nat.le_refl _)] at this
        rw [this]; rfl
      have HD := Lib.hid hs; clear hs
      go_wp2
      go_ret
      exact ⟨by rw [HD.out]; simp, hbw⟩
end Go.Proofs.Ytpbmolijoadonaa

/- Layer 4: contracts of package runs (over int): New, Runs, At, Of. -/
import Derived.Test.YtjbbkhoonenfjaaRunT
set_option linter.unusedVariables false
set_option linter.unusedSimpArgs false
namespace Go.Proofs.Ytjbbkhoonenfjaa
open Go.RowKit

theorem expand_get {α : Type} (rs : List (Rn α)) (k : Nat) (hk : k < rs.length) (j : Nat) (hj : j < rs[k].1) : (expand rs)[tot (rs.take k) + j]? = some rs[k].2 := by
  have e : rs = rs.take k ++ (rs[k] :: rs.drop (k + 1)) := by rw [List.getElem_cons_drop hk, List.take_append_drop]
  have h : expand rs = expand (rs.take k) ++ (List.replicate rs[k].1 rs[k].2 ++ expand (rs.drop (k + 1))) := by
    conv => lhs; rw [e, expand_append]
    rfl
  rw [h, List.getElem?_append_right (by rw [expand_length]; omega), expand_length, Nat.add_sub_cancel_left, List.getElem?_append_left (by simpa using hj), List.getElem?_replicate, if_pos hj]
def newL (n : Nat) (v : Int) : List (Rn Int) := if n < 1 ∨ 65536 < n then [] else [(n, v)]
theorem new_any (n : Nat) (v : Int) (w : World) (hn : n ≤ 1000000) : Calls Try.prog 28 #[.int .i64 n, .int .i64 v] w (RetL w (newL n v)) := by
  by_cases h1 : n < 1
  · have e : newL n v = [] := by rw [newL, if_pos (.inl h1)]
    rw [e]
    have h2 : (n : Int) < 1 := by omega
    clear e
    go_enter Try.func28, Try.ntmps28
    go_wp2
    exact bodyPost_ret (v := lv none 0 0) (by simp [results, Try.results28, go_sem]) rfl ⟨none, 0, 0, rfl, Rd.nil_, (Below.refl _ _).alloc (Nat.le_refl _) _⟩
  · have g1 : decide ((n : Int) < 1) = false := by simp; omega
    by_cases h2 : 65536 < n
    · have e : newL n v = [] := by rw [newL, if_pos (.inr h2)]
      rw [e]
      have h3 : (65536 : Int) < (n : Int) := by omega
      clear e
      go_enter Try.func28, Try.ntmps28
      go_wp2
      exact bodyPost_ret (v := lv none 0 0) (by simp [results, Try.results28, go_sem]) rfl ⟨none, 0, 0, rfl, Rd.nil_, (Below.refl _ _).alloc (Nat.le_refl _) _⟩
    · have e : newL n v = [(n, v)] := by rw [newL, if_neg (by omega)]
      rw [e]
      have g2 : decide ((65536 : Int) < (n : Int)) = false := by simp; omega
      clear e
      go_enter Try.func28, Try.ntmps28
      go_wp2
      refine bodyPost_ret (v := lv (some ⟨w.heap.size + 1, 0, none⟩) 1 1) (by simp [results, Try.results28, go_sem]) rfl ⟨_, 1, 1, rfl, ?_, ((Below.refl _ _).alloc (Nat.le_refl _) _).alloc (by simp) _⟩
      exact Rd.lit2 rfl (by simp)
theorem runs_any (A : Option Addr) (n c B : Nat) (rs : List (Rn Int)) (w : World) (hr : Rd w B 2 A n (rnCells rs)) (hn : n ≤ 100000) :
    Calls Try.prog 29 #[lv A n c] w fun e w' => ∃ v, e = .returned v ∧ w'.ownsRow w.heap.size 36 2 v n (rnCells rs) ∧ Below w.heap.size w w' := by
  have hr := hr.fits (by decide)
  have HC := Lib.hid (fun (W : World) (h : Below w.heap.size w W) => rclone_any A n c w.heap.size rs W (hr.below h (Nat.le_refl _)) hn)
  clear hr
  go_enter Try.func29, Try.ntmps29
  go_wp2_with fail
  refine (HC.out _ ((Below.refl _ _).alloc (Nat.le_refl _) _)).mono ?_
  rintro e w1 ⟨v, rfl, hown, hb⟩
  go_wp2
  go_ret
  exact ⟨_, rfl, own_mono hown (by simp), ext_alloc' (Below.refl _ _) (by simpa using hb)⟩

def atL (rs : List (Rn Int)) (i : Int) : Int × Bool := if 0 ≤ i ∧ i < tot rs then ((expand rs).getD i.toNat 0, true) else (0, false)
set_option maxHeartbeats 1000000 in
theorem at_any (rs : List (Rn Int)) (A : Option Addr) (n c B : Nat) (i v : Int) (ok : Bool) (w : World) (hr : Rd w B 2 A n (rnCells rs)) (hn : n ≤ 1000000) (hb : tot rs ≤ 1000000) (h1 : -1000000 ≤ i) (h2 : i ≤ 1000000) (hc1 : ∀ r ∈ rs, 1 ≤ r.1) (hv : atL rs i = (v, ok)) :
    Calls Try.prog 34 #[lv A n c, .int .i64 i] w fun e w' => e = .returned (.tuple #[.int .i64 v, .bool ok]) ∧ Below w.heap.size w w' := by
  have hr := hr.fits (by decide)
  have hl := hr.rlen
  have HR := Lib.hid hr
  have HV := Lib.hid hv
  have HL := Lib.hid hl
  have HC := Lib.hid hc1
  clear hr hv hl hc1
  go_enter Try.func34, Try.ntmps34
  go_wp2
  go_loopw [1, 12] (fun x j wr => ∃ k : Nat, k ≤ n ∧ j = .int .i64 k ∧ x = .int .i64 (i - tot (rs.take k)) ∧ (k = 0 ∨ 0 ≤ i - tot (rs.take k)) ∧ Below w.heap.size w wr) (fun _ j _ => n - (intOf j).toNat)
  case atStart => exact ⟨0, by omega, rfl, by simp [tot], .inl rfl, (Below.refl _ _).alloc (Nat.le_refl _) _⟩
  case round =>
    obtain ⟨k, hk, rfl, rfl, hpos, hbw⟩ := hrel
    have hbd := tot_take rs k
    obtain ⟨s, hs⟩ : ∃ s, tot (rs.take k) = s := ⟨_, rfl⟩
    have hs0 : k = 0 → s = 0 := by intro h; rw [← hs, h]; rfl
    rw [hs] at hpos hbd ⊢
    by_cases hlt : k < n
    · obtain ⟨b, off, rfl, hbl, hk', c0, c1⟩ := rn_cells (HR.out.below hbw (Nat.le_refl _)) k hlt
      have hsn := tot_snoc rs k hk'
      have hc1 := HC.out rs[k] (List.getElem_mem hk')
      have hbd2 := tot_take rs (k + 1)
      rw [hs] at hsn
      obtain ⟨r1, hr1⟩ : ∃ r1, rs[k].1 = r1 := ⟨_, rfl⟩
      obtain ⟨r2, hr2⟩ : ∃ r2, rs[k].2 = r2 := ⟨_, rfl⟩
      have hget := fun j hj => expand_get rs k hk' j hj
      rw [hs, hr1, hr2] at hget
      rw [hr1] at c0 hsn hc1
      rw [hr2] at c1
      rw [hsn] at hbd2
      have HSN := Lib.hid hsn
      have HG := Lib.hid hget
      clear hsn hr1 hr2 hs hget
      rcases (show (0 ≤ i - s ∧ i - s < r1) ∨ (i - s < 0) ∨ (r1 ≤ i - s) by omega) with ⟨k1, k2⟩ | k1 | k1
      · have he : v = r2 ∧ ok = true := by
          have hx := HV.out
          have hgg := HG.out (i - s).toNat (by omega)
          rw [show s + (i - s).toNat = i.toNat by omega] at hgg
          rw [atL, if_pos (by omega)] at hx
          simp only [Prod.mk.injEq, List.getD, hgg, Option.getD_some] at hx
          exact ⟨hx.1.symm, hx.2.symm⟩
        obtain ⟨rfl, rfl⟩ := he
        have k3 : s ≤ i := by omega
        go_wp2
        go_ret2
        exact ⟨rfl, hbw.alloc hbw.size _⟩
      · have he : v = 0 ∧ ok = false := by
          have hx := HV.out
          rw [atL, if_neg (by omega)] at hx
          simp only [Prod.mk.injEq] at hx
          exact ⟨hx.1.symm, hx.2.symm⟩
        obtain ⟨rfl, rfl⟩ := he
        have k3 : decide (0 ≤ i - (s : Int)) = false := by simp; omega
        have k4 : i < s := by omega
        have k5 : i - (s : Int) - (r1 : Int) < 0 := by omega
        go_wp2
        go_ret2
        exact ⟨rfl, hbw.alloc hbw.size _⟩
      · have k3 : 0 ≤ i - (s : Int) := by omega
        have k4 : s ≤ i := by omega
        have k5 : ¬ (i - (s : Int) - (r1 : Int) < 0) := by omega
        have k6 : 0 ≤ i - (s : Int) - (r1 : Int) := by omega
        go_wp2
        refine ⟨⟨k + 1, by omega, by go_num, by rw [HSN.out, Int.natCast_add, Int.sub_sub], .inr (by rw [HSN.out]; omega), hbw.alloc hbw.size _⟩, by simp [intOf]; omega⟩
    · obtain rfl : k = n := by omega
      have he : v = 0 ∧ ok = false := by
        have hx := HV.out
        have hst : s = tot rs := by rw [← hs, List.take_of_length_le (by rw [HL.out]; omega)]
        have : ¬ (0 ≤ i ∧ i < tot rs) := by
          rintro ⟨x1, x2⟩
          rcases hpos with h | h
          · have := hs0 h; omega
          · omega
        rw [atL, if_neg this] at hx
        simp only [Prod.mk.injEq] at hx
        exact ⟨hx.1.symm, hx.2.symm⟩
      obtain ⟨rfl, rfl⟩ := he
      clear hs
      go_wp2
      go_ret2
      exact ⟨rfl, hbw⟩

/-! ### Of -/
abbrev i64s (xs : List Int) : List Value := xs.map (Value.int .i64)
/-- What 'Of' holds before element k: R is closed, m values of the last run are pending. -/
def OfInv (vs : List Int) (k m : Nat) (R : List (Rn Int)) : Prop :=
  (m = 0 ∧ R = ofL (vs.take k) ∧ (k < vs.length → ∀ l, R.getLast? = some l → l.2 ≠ vs.getD k 0)) ∨ (0 < m ∧ k < vs.length ∧ ofL (vs.take k) = R ++ [(m, vs.getD k 0)])
theorem ofL_snoc (vs : List Int) (k : Nat) (h : k < vs.length) : ofL (vs.take (k + 1)) = pushL (ofL (vs.take k)) (1, vs.getD k 0) := by
  rw [List.take_succ_eq_append_getElem h, ofL, List.foldl_append]
  simp [ofL, snocL, List.getD, List.getElem?_eq_getElem h]
theorem of_step (vs : List Int) (k m : Nat) (R : List (Rn Int)) (hk : k < vs.length) (h : OfInv vs k m R) : ofL (vs.take (k + 1)) = R ++ [(m + 1, vs.getD k 0)] := by
  rw [ofL_snoc vs k hk]
  rcases h with ⟨rfl, hR, hl⟩ | ⟨hm, _, hO⟩
  · rw [← hR, pushL, if_neg (by simp)]
    rcases hg : R.getLast? with _ | l
    · have : R = [] := by simpa using hg
      subst this; rfl
    · simp only
      rw [if_neg (hl hk l hg)]
  · rw [hO, pushL, if_neg (by simp)]
    simp
theorem of_close (vs : List Int) (k m : Nat) (R : List (Rn Int)) (hk : k < vs.length) (h : OfInv vs k m R) (hd : k + 1 = vs.length ∨ vs.getD (k + 1) 0 ≠ vs.getD k 0) : OfInv vs (k + 1) 0 (R ++ [(m + 1, vs.getD k 0)]) := by
  refine .inl ⟨rfl, (of_step vs k m R hk h).symm, fun hl l hg => ?_⟩
  simp at hg
  subst hg
  rcases hd with h1 | h1
  · omega
  · exact fun e => h1 e.symm
theorem of_open (vs : List Int) (k m : Nat) (R : List (Rn Int)) (hk : k + 1 < vs.length) (h : OfInv vs k m R) (hd : vs.getD (k + 1) 0 = vs.getD k 0) : OfInv vs (k + 1) (m + 1) R :=
  .inr ⟨by omega, hk, by rw [of_step vs k m R (by omega) h, hd]⟩
theorem ofL_length (vs : List Int) : (ofL vs).length ≤ vs.length := by
  have : ∀ (l : List Int) (a : List (Rn Int)), (l.foldl snocL a).length ≤ a.length + l.length := by
    intro l
    induction l with
    | nil => intro a; simp
    | cons v t ih => intro a; have h1 := ih (snocL a v); have h2 := pushL_length a (1, v); simp only [List.foldl_cons, snocL, List.length_cons] at *; omega
  simpa [ofL] using this vs []
theorem ofL_tot (vs : List Int) : tot (ofL vs) = vs.length := by rw [← expand_length, (ofL_spec vs).2]
theorem int_at {w : World} {B n : Nat} {A : Option Addr} {xs : List Int} (h : Rd w B 1 A n (i64s xs)) (k : Nat) (hk : k < n) : ∃ b off, A = some ⟨b, off, none⟩ ∧ b < B ∧ w.cell? ⟨b, off + k, none⟩ = some (.int .i64 (xs.getD k 0)) := by
  have hl : xs.length = n := by have := h.1; simpa using this
  obtain ⟨b, off, e, hb, hc⟩ := h.2 (by omega)
  exact ⟨b, off, e, hb, hc k _ (by simp [List.getD, List.getElem?_eq_getElem (show k < xs.length by omega)])⟩
end Go.Proofs.Ytjbbkhoonenfjaa

/- Layer 7: the reference's Stream; the law UartStream. -/
import Derived.Test.YtcpcbgemnfpfjaaUartT
import Derived.Test.YtcpcbgemnfpfjaaUartM
set_option linter.unusedVariables false
set_option linter.unusedSimpArgs false
namespace Go.Proofs.Ytcpcbgemnfpfjaa
open Go.RowKit

set_option maxRecDepth 100000 in
set_option maxHeartbeats 1000000 in
theorem refStream_any (l : List Bool) (A : Option Addr) (c B : Nat) (p : Int) (w : World) (hr : Rd w B 1 A l.length (l.map Value.bool)) (hlc : l.length ≤ c) (hc : c ≤ maxLen) (hn : l.length ≤ 100000) (hp : 0 ≤ p ∧ p ≤ 2) :
    Calls Try.prog 17 #[.slice A l.length c, .int .i64 p] w fun e w' =>
    ∃ v, e = .returned v ∧ w'.ownsRow w.heap.size 36 3 v (chars l p 0).length (evCells (chars l p 0)) ∧ Below w.heap.size w w' := by
  unfold maxLen at hc
  have hr := hr.fits (by decide)
  have HR := Lib.hid hr
  have p1 := hp.1
  have p2 := hp.2
  have HP := Lib.hid hp
  clear hr hp
  go_enter Try.func17, Try.ntmps17
  go_wp2
  go_loopw [5, 6] (fun v i wr => ∃ (k : Nat) (es : List Ev), k ≤ l.length ∧ i = .int .i64 k ∧ wr.ownsRow w.heap.size 36 3 v es.length (evCells es) ∧ es ++ chars l p k = chars l p 0 ∧ Below w.heap.size w wr) (fun _ i _ => l.length - (intOf i).toNat)
  case atStart => exact ⟨0, [], by omega, rfl, World.ownsRow_nil _ _ _ _, rfl, Below.refl _ _⟩
  case round =>
    obtain ⟨k, es, hk, rfl, hown, hes, hbw⟩ := hrel
    have hesl : es.length ≤ 100000 := by
      have h1 := congrArg List.length hes
      rw [List.length_append] at h1
      have h2 := chars_len l p l.length 0 (by omega)
      omega
    have HES := Lib.hid hes; clear hes
    by_cases hlt : k + 11 ≤ l.length
    · obtain ⟨b, off, rfl, hb, hRc⟩ := (HR.out.below hbw (Nat.le_refl _)).chr (i := k) hlt hlc
      obtain ⟨x, hx⟩ : ∃ x, bt l k = x := ⟨_, rfl⟩
      have hcell : wr.cell? ⟨b, off + k, none⟩ = some (.bool x) := by
        have h1 := hRc.2 (by omega)
        obtain ⟨b', off', e, _, h2⟩ := h1
        injection e with e
        injection e with e1 e2
        subst e1; subst e2
        have h3 := h2 0 (.bool (bt l k)) (by
          rw [List.getElem?_map, List.getElem?_take, if_pos (by omega), List.getElem?_drop]
          simp [bt, List.getD, List.getElem?_eq_getElem (show k < l.length by omega)])
        rw [hx] at h3
        exact h3
      cases x
      · obtain ⟨v, f, o, hch⟩ : ∃ v f o, chrAt l p k = (v, f, o) := ⟨_, _, _, rfl⟩
        have hnx : es ++ [Ev.mk (k + 10) v f] ++ chars l p (k + 11) = chars l p 0 := by
          rw [← HES.out, chr_eq hch (by omega) hx]; simp
        have HN := Lib.hid hnx
        have HD := Lib.hid (refDecode_eq ((l.drop k).take 11) 11 (some ⟨b, off + k, none⟩) (c - k) w.heap.size p v f o wr hRc hch)
        have hcc : c ≠ k := by omega
        clear hnx hx hRc
        go_wp2_with fail
        refine HD.out.mono ?_
        rintro e w2 ⟨rfl, hb2⟩
        have hown2 := own_below hown hb2 (Nat.le_refl _)
        have hbw2 := ext_trans hbw hb2
        go_wp2_with (at_builtin; refine wpList_app (.tmp 40) (.tmp 46) 33 w.heap.size 36 _ 3 24 _ es.length 1 1 (evCells es) Try.underlying33 evInfo rfl (by decide) rfl rfl rfl rfl hown2 rfl (by simp [Value.oneCell']) (by omega) (by omega) hbw2.size ?_; intro v1 w1 hown1 hg1 hb1)
        have hown3 : w1.ownsRow w.heap.size 36 3 v1 (es ++ [Ev.mk (k + 10) v f]).length (evCells (es ++ [Ev.mk (k + 10) v f])) := by
          rw [evCells_snoc, List.length_append]
          have e : evRow (Ev.mk (k + 10) v f) = [.int .i64 ((k : Int) + 11 - 1), .int .u8 v, .int .i64 f] := by simp [evRow]; omega
          rw [e]; exact hown1
        exact ⟨⟨k + 11, es ++ [Ev.mk (k + 10) v f], by omega, by go_num, hown3, HN.out, hbw2.trans hb1⟩, by simp [intOf]; omega⟩
      · have hnx : es ++ chars l p (k + 1) = chars l p 0 := by rw [← HES.out, chars_skip l p k hx]
        have HN := Lib.hid hnx
        clear hnx hx hRc
        go_wp2
        exact ⟨⟨k + 1, es, by omega, by go_num, hown, HN.out, hbw⟩, by simp [intOf]; omega⟩
    · have hfin : es = chars l p 0 := by rw [← HES.out, chars_short l p k (by omega), List.append_nil]
      have HF := Lib.hid hfin; clear hfin
      go_wp2
      go_ret
      rw [← HF.out]
      exact ⟨_, rfl, hown, hbw⟩

def streamL (l : List Bool) (p : Int) : List Ev := if 0 ≤ p ∧ p ≤ 2 then chars l p 0 else []
theorem stream_eq (l : List Bool) (n : Nat) (es : List Ev) (m : Nat) (A : Option Addr) (c B : Nat) (p : Int) (w : World) (hr : Rd w B 1 A n (l.map Value.bool)) (hlc : n ≤ c) (hc : c ≤ maxLen) (hn : n ≤ 100000) (he : streamL l p = es) (hm : es.length = m) :
    Calls Try.prog 16 #[.slice A n c, .int .i64 p] w fun e w' =>
    ∃ A c, e = .returned (.slice A m c) ∧ w'.ownsRow w.heap.size 36 3 (.slice A m c) m (evCells es) ∧ Below w.heap.size w w' := by
  obtain rfl : l.length = n := by have := hr.1; simpa using this
  subst hm
  by_cases hp : 0 ≤ p ∧ p ≤ 2
  · rw [streamL, if_pos hp] at he
    subst he
    refine (stream_any l A c B p w hr hlc hc hn hp).mono ?_
    rintro e w' ⟨v, rfl, hown, hb⟩
    obtain ⟨A, c, rfl, _, _⟩ := own_form hown
    exact ⟨A, c, rfl, hown, hb⟩
  · rw [streamL, if_neg hp] at he
    subst he
    have hd : decide (0 ≤ p ∧ p ≤ 2) = false := by simpa using hp
    clear hp hr hlc hc hn
    go_enter Try.func16, Try.ntmps16
    go_wp2_with (go_at_call 19; refine (possible_any _ _).mono ?_; rintro e w' ⟨rfl, rfl⟩)
    go_ret
    exact ⟨none, 0, rfl, World.ownsRow_nil _ _ _ _, Below.refl _ _⟩
theorem refStream_eq (l : List Bool) (n : Nat) (es : List Ev) (m : Nat) (A : Option Addr) (c B : Nat) (p : Int) (w : World) (hr : Rd w B 1 A n (l.map Value.bool)) (hlc : n ≤ c) (hc : c ≤ maxLen) (hn : n ≤ 100000) (he : streamL l p = es) (hm : es.length = m) :
    Calls Try.prog 17 #[.slice A n c, .int .i64 p] w fun e w' =>
    ∃ A c, e = .returned (.slice A m c) ∧ w'.ownsRow w.heap.size 36 3 (.slice A m c) m (evCells es) ∧ Below w.heap.size w w' := by
  obtain rfl : l.length = n := by have := hr.1; simpa using this
  subst hm
  by_cases hp : 0 ≤ p ∧ p ≤ 2
  · rw [streamL, if_pos hp] at he
    subst he
    refine (refStream_any l A c B p w hr hlc hc hn hp).mono ?_
    rintro e w' ⟨v, rfl, hown, hb⟩
    obtain ⟨A, c, rfl, _, _⟩ := own_form hown
    exact ⟨A, c, rfl, hown, hb⟩
  · rw [streamL, if_neg hp] at he
    subst he
    have hd : decide (p < 0) = true ∨ (decide (p < 0) = false ∧ decide (2 < p) = true) := by
      by_cases h : p < 0
      · exact .inl (by simpa using h)
      · exact .inr ⟨by simpa using h, by simp; omega⟩
    clear hp hr hlc hc hn
    rcases hd with h1 | ⟨h1, h2⟩
    all_goals
      go_enter Try.func17, Try.ntmps17
      go_wp2
      go_ret
      exact ⟨none, 0, rfl, World.ownsRow_nil _ _ _ _, Below.refl _ _⟩
theorem evCells_get (l : List Ev) (k : Nat) (hk : k < l.length) : (evCells l)[k * 3]? = some (.int .i64 l[k].at_) ∧ (evCells l)[k * 3 + 1]? = some (.int .u8 l[k].val) ∧ (evCells l)[k * 3 + 2]? = some (.int .i64 l[k].fl) := by
  have h : ∀ r ∈ l.map evRow, r.length = 3 := by intro r hr; obtain ⟨o, _, rfl⟩ := List.mem_map.1 hr; rfl
  have g := fun j (hj : j < 3) => flatten_get h k j (by simpa using hk) hj
  refine ⟨?_, ?_, ?_⟩
  · have := g 0 (by omega); simpa [evCells, evRow] using this
  · have := g 1 (by omega); simpa [evCells, evRow] using this
  · have := g 2 (by omega); simpa [evCells, evRow] using this
/-- The cells of an event in a row of the call's own. -/
theorem ev_cells {w : World} {B n : Nat} {A : Option Addr} {l : List Ev} (h : Rd w B 3 A n (evCells l)) (k : Nat) (hk : k < l.length) (hkn : k < n) :
    ∃ b off, A = some ⟨b, off, none⟩ ∧ w.cell? ⟨b, off + k * 3, none⟩ = some (.int .i64 l[k].at_) ∧ w.cell? ⟨b, off + k * 3 + 1, none⟩ = some (.int .u8 l[k].val) ∧ w.cell? ⟨b, off + k * 3 + 2, none⟩ = some (.int .i64 l[k].fl) := by
  obtain ⟨b, off, e, _, hc⟩ := h.2 (by omega)
  obtain ⟨h0, h1, h2⟩ := evCells_get l k hk
  exact ⟨b, off, e, hc _ _ h0, hc _ _ h1, hc _ _ h2⟩

set_option maxRecDepth 100000 in
set_option maxHeartbeats 1000000 in
theorem lawStream_any (l0 : List Bool) (A : Option Addr) (c : Nat) (p : Int) (w : World) (hr0 : Rd w w.heap.size 1 A l0.length (l0.map Value.bool)) (hlc : l0.length ≤ c) (hc : c ≤ maxLen) :
    Calls Try.prog 7 #[.slice A l0.length c, .int .i64 p] w fun e w' => e = .returned (.bool true) ∧ Below w.heap.size w w' := by
  obtain ⟨l, n, hl, hr, hn, hnc⟩ : ∃ (l : List Bool) (n : Nat), min l0.length 120 = n ∧ Rd w w.heap.size 1 A n (l.map Value.bool) ∧ n ≤ 120 ∧ n ≤ c := by
    refine ⟨l0.take (min l0.length 120), _, rfl, ?_, by omega, by omega⟩
    rw [List.map_take]
    have := hr0.take (k := min l0.length 120) (by omega)
    rwa [Nat.mul_one] at this
  obtain ⟨es, hes⟩ : ∃ es, streamL l p = es := ⟨_, rfl⟩
  obtain ⟨m, hm⟩ : ∃ m, es.length = m := ⟨_, rfl⟩
  have HS := Lib.hid (fun (w' : World) (h : Rd w' w.heap.size 1 A n (l.map Value.bool)) => stream_eq l n es m A c w.heap.size p w' h hnc hc (by omega) hes hm)
  have HM := Lib.hid (fun (w' : World) (h : Rd w' w.heap.size 1 A n (l.map Value.bool)) => refStream_eq l n es m A c w.heap.size p w' h hnc hc (by omega) hes hm)
  have HL := Lib.hid hm
  have hmb : m ≤ 1000000 := by
    rw [← hm, ← hes, streamL]
    split
    · have := chars_len l p l.length 0 (by omega)
      have h2 : l.length = n := by have := hr.1; simpa using this
      omega
    · simp
  have HR := Lib.hid hr
  unfold maxLen at hc
  clear hr hes hm hr0
  rcases (show (l0.length ≤ 120 ∧ n = l0.length) ∨ (¬ l0.length ≤ 120 ∧ n = 120) by omega) with ⟨h120, rfl⟩ | ⟨h120, rfl⟩
  all_goals
    have h120' : ¬ l0.length < 120 ∨ l0.length ≤ 120 := by omega
    clear hl h120'
    go_enter Try.func7, Try.ntmps7
    go_wp2_with fail
    refine (HS.out _ HR.out).mono ?_
    rintro e w1 ⟨A1, c1, rfl, hown1, hb1⟩
    go_wp2_with fail
    refine (HM.out _ (HR.out.below hb1 (Nat.le_refl _))).mono ?_
    rintro e w2 ⟨A2, c2, rfl, hown2, hb2⟩
    have HR1 := Lib.hid (((Rd.of_own hown1).below hb2 (Nat.le_refl _)).more hb2.size)
    have HR2 := Lib.hid (Rd.of_own hown2)
    have hbw := ext_trans hb1 hb2
    clear hown1 hown2 HS HM hb1 hb2
    go_wp2_with fail
    go_loopw [7] (fun i wr => ∃ k : Nat, k ≤ m ∧ i = .int .i64 k ∧ Below w2.heap.size w2 wr) (fun i _ => m - (intOf i).toNat)
    case atStart => exact ⟨0, by omega, rfl, Below.refl _ _⟩
    case round =>
      obtain ⟨k, hk, rfl, hbr⟩ := hrel
      by_cases hlt : k < m
      · have hk2 : k < es.length := by rw [HL.out]; exact hlt
        obtain ⟨b1, o1, rfl, x0, x1, x2⟩ := ev_cells (HR1.out.below hbr (Nat.le_refl _)) k hk2 hlt
        obtain ⟨b2, o2, rfl, y0, y1, y2⟩ := ev_cells (HR2.out.below hbr (Nat.le_refl _)) k hk2 hlt
        go_wp2_with fail
        go_quiet (fail)
        go_wp2
        exact ⟨⟨k + 1, by omega, by go_num, below_drewN hbr _⟩, by simp [intOf]; omega⟩
      · obtain rfl : k = m := by omega
        go_wp2_with fail
        refine (awake_any _).mono ?_
        rintro e w3 ⟨rfl, hb3⟩
        go_wp2
        go_ret
        exact ⟨rfl, ext_trans (ext_trans hbw hbr) hb3⟩
theorem streamI (l : List Bool) (A : Option Addr) (c : Nat) (p : Int) (w : World) (hr : Rd w w.heap.size 1 A l.length (l.map fun x => [Value.bool x]).flatten) (hlc : l.length ≤ c) (hc : c ≤ maxLen) :
    Calls Try.prog 7 #[.slice A l.length c, .int .i64 p] w fun e w' => e = .returned (.bool true) ∧ Below w.heap.size w w' :=
  lawStream_any l A c p w (by rwa [flatten_one] at hr) hlc hc
end Go.Proofs.Ytcpcbgemnfpfjaa

/- Layer 7: characters in a sequence of bits: plain functions, slices.Index over bits, Stream of the program and of the reference. -/
import Derived.Test.YtoliplochipoeaaTUartR
import Derived.Test.YtoliplochipoeaaLib2
set_option linter.unusedVariables false
set_option linter.unusedSimpArgs false
namespace Go.Proofs.Ytoliplochipoeaa
open Go.RowKit

/-- The character that begins at i. -/
def chrAt (l : List Bool) (p : Int) (i : Nat) : Nat × Int × Bool := decode ((l.drop i).take 11) p
structure UEv where
  at_ : Nat
  val : Nat
  fl : Int
deriving DecidableEq
def chars (l : List Bool) (p : Int) (i : Nat) : List UEv :=
  if h : i + 11 ≤ l.length then (if bt l i then chars l p (i + 1) else ⟨i + 10, (chrAt l p i).1, (chrAt l p i).2.1⟩ :: chars l p (i + 11)) else []
termination_by l.length - i
theorem chars_short (l : List Bool) (p : Int) (i : Nat) (h : l.length < i + 11) : chars l p i = [] := by
  rw [chars, dif_neg (by omega)]
theorem chars_skip (l : List Bool) (p : Int) (i : Nat) (h : bt l i = true) : chars l p i = chars l p (i + 1) := by
  by_cases hl : i + 11 ≤ l.length
  · rw [chars, dif_pos hl, if_pos h]
  · rw [chars_short l p i (by omega), chars_short l p (i + 1) (by omega)]
theorem chars_take (l : List Bool) (p : Int) (i : Nat) (hl : i + 11 ≤ l.length) (h : bt l i = false) : chars l p i = ⟨i + 10, (chrAt l p i).1, (chrAt l p i).2.1⟩ :: chars l p (i + 11) := by
  rw [chars, dif_pos hl, if_neg (by simp [h])]
theorem chars_skips (l : List Bool) (p : Int) (i d : Nat) (h : ∀ j, j < d → bt l (i + j) = true) : chars l p i = chars l p (i + d) := by
  induction d with
  | zero => rfl
  | succ d ih =>
    rw [ih (fun j hj => h j (by omega)), chars_skip l p (i + d) (h d (by omega))]
    rfl
def uevRow (e : UEv) : List Value := [.int .i64 e.at_, .int .u8 e.val, .int .i64 e.fl]
def uevCells (l : List UEv) : List Value := (l.map uevRow).flatten
theorem uevCells_snoc (l : List UEv) (e : UEv) : uevCells (l ++ [e]) = uevCells l ++ uevRow e := by simp [uevCells]
theorem uevCells_length (l : List UEv) : (uevCells l).length = l.length * 3 := by
  unfold uevCells; induction l with
  | nil => rfl
  | cons e l ih => simp only [List.map_cons, List.flatten_cons, List.length_append, List.length_cons, ih]; simp [uevRow]; omega
theorem chars_len (l : List Bool) (p : Int) : ∀ (n i : Nat), l.length - i ≤ n → (chars l p i).length ≤ l.length - i
  | 0, i, h => by rw [chars_short l p i (by omega)]; simp
  | n + 1, i, h => by
    by_cases hl : i + 11 ≤ l.length
    · by_cases hb : bt l i = true
      · rw [chars_skip l p i hb]; have := chars_len l p n (i + 1) (by omega); omega
      · rw [chars_take l p i hl (by simpa using hb), List.length_cons]
        have := chars_len l p n (i + 11) (by omega); omega
    · rw [chars_short l p i (by omega)]; simp

theorem bt_drop (l : List Bool) (i j : Nat) : bt (l.drop i) j = bt l (i + j) := by simp [bt, List.getD]
/-- The first bit that is 0. -/
theorem first_zero (s : List Bool) : ∃ d, d ≤ s.length ∧ (∀ j, j < d → bt s j = true) ∧ (d < s.length → bt s d = false) := by
  induction s with
  | nil => exact ⟨0, by simp, by simp, by simp⟩
  | cons b s ih =>
    cases b
    · exact ⟨0, by simp, by simp, by simp [bt]⟩
    · obtain ⟨d, h1, h2, h3⟩ := ih
      refine ⟨d + 1, by simpa using h1, ?_, ?_⟩
      · intro j hj
        rcases j with _ | j
        · simp [bt]
        · have := h2 j (by omega); simpa [bt] using this
      · intro h
        have := h3 (by simpa using h)
        simpa [bt] using this

theorem index_eq (s : List Bool) (n d : Nat) (r : Int) (A : Option Addr) (c B : Nat) (w : World) (hr : Rd w B 1 A n (s.map Value.bool)) (hn : n ≤ 1000000) (hd : d ≤ n) (h1 : ∀ j, j < d → bt s j = true) (h2 : d < n → bt s d = false) (he : (if d < n then (d : Int) else -1) = r) :
    Calls Try.prog 27 #[.slice A n c, .bool false] w fun e w' => e = .returned (.int .i64 r) ∧ w = w' := by
  have hl : s.length = n := by have := hr.1; simpa using this
  have hc : ∀ k, k < n → ∃ b off, A = some ⟨b, off, none⟩ ∧ w.cell? ⟨b, off + k, none⟩ = some (.bool (bt s k)) := fun k hk => by
    obtain ⟨b, off, e, _, hc⟩ := hr.2 (by omega)
    exact ⟨b, off, e, hc k _ (bt_some s k (by omega))⟩
  have HC := Lib.hid hc; have H1 := Lib.hid h1; have H2 := Lib.hid h2; have HE := Lib.hid he
  clear hc h1 h2 hr hl he
  go_enter Try.func27, Try.ntmps27
  go_wp2
  go_loop [5, 8] (fun x i => ∃ k : Nat, k ≤ d ∧ i = .int .i64 k) (fun _ i => n - (intOf i).toNat)
  case atStart => exact ⟨0, by omega, rfl⟩
  case round =>
    obtain ⟨k, hk, rfl⟩ := hrel
    by_cases hlt : k < n
    · obtain ⟨b, off, rfl, hcell⟩ := HC.out k hlt
      by_cases hkd : k < d
      · have hb := H1.out k hkd
        rw [hb] at hcell
        clear hb
        go_wp2
        exact ⟨⟨k + 1, by omega, by go_num⟩, by simp [intOf]; omega⟩
      · obtain rfl : k = d := by omega
        have hb := H2.out hlt
        rw [hb] at hcell
        clear hb
        go_wp2
        go_ret
        exact ⟨by rw [← HE.out, if_pos hlt]; rfl, rfl⟩
    · go_wp2
      go_ret
      exact ⟨by rw [← HE.out, if_neg (by omega)]; rfl, rfl⟩

theorem uevInfo : (Try.prog.info? 40).map (fun i => (i.zero, i.size, i.bytes)) = some (some (.agg #[.int .i64 0, .int .u8 0, .int .i64 0]), 3, 24) := by kernel_rfl

theorem chr_eq {l : List Bool} {p : Int} {i : Nat} {v : Nat} {f : Int} {o : Bool} (h : chrAt l p i = (v, f, o)) (hl : i + 11 ≤ l.length) (hb : bt l i = false) : chars l p i = ⟨i + 10, v, f⟩ :: chars l p (i + 11) := by
  rw [chars_take l p i hl hb, h]
/-- The bits of a character are read. -/
theorem Rd.chr {w : World} {B c i : Nat} {A : Option Addr} {l : List Bool} (hr : Rd w B 1 A l.length (l.map Value.bool)) (hl : i + 11 ≤ l.length) (hc : l.length ≤ c) :
    ∃ b off, A = some ⟨b, off, none⟩ ∧ b < B ∧ Rd w B 1 (some ⟨b, off + i, none⟩) 11 (((l.drop i).take 11).map Value.bool) := by
  obtain ⟨b, off, rfl, hb, _⟩ := hr.2 (by omega)
  refine ⟨b, off, rfl, hb, ?_⟩
  have h1 := (hr.cut (k := i) (cap := c) (by omega) hc).take (k := 11) (by omega)
  rw [if_neg (by omega)] at h1
  have e : (Option.map (fun x => x.add (i * 1)) (some (⟨b, off, none⟩ : Addr))) = some ⟨b, off + i, none⟩ := by simp [Addr.add]
  rw [e] at h1
  simpa [List.map_drop, List.map_take] using h1

theorem decode_eqT (l : List Bool) (n : Nat) (A : Option Addr) (c B : Nat) (p : Int) (b : Nat) (f : Int) (o : Bool) (w : World) (hr : Rd w B 1 A n (l.map Value.bool)) (hd : decode l p = (b, f, o)) :
    Calls Try.prog 28 #[.slice A n c, .int .i64 p] w fun e w' => e = .returned (.tuple #[.int .u8 b, .int .i64 f, .bool o]) ∧ ∃ n, w' = w.drewN n := by
  obtain rfl : l.length = n := by have := hr.1; simpa using this
  have h := decode_any l A c B p w hr
  rw [hd] at h
  exact h
set_option maxRecDepth 100000 in
set_option maxHeartbeats 1000000 in
theorem stream_any (l : List Bool) (A : Option Addr) (c B : Nat) (p : Int) (w : World) (hr : Rd w B 1 A l.length (l.map Value.bool)) (hlc : l.length ≤ c) (hc : c ≤ maxLen) (hn : l.length ≤ 100000) (hp : 0 ≤ p ∧ p ≤ 2) :
    Calls Try.prog 11 #[.slice A l.length c, .int .i64 p] w fun e w' =>
    ∃ v, e = .returned v ∧ w'.ownsRow w.heap.size 40 3 v (chars l p 0).length (uevCells (chars l p 0)) ∧ Below w.heap.size w w' := by
  have hd : decide (0 ≤ p ∧ p ≤ 2) = true := by simpa using hp
  unfold maxLen at hc
  have hr := hr.fits (by decide)
  have HR := Lib.hid hr
  have HP := Lib.hid hp
  clear hr hp
  go_enter Try.func11, Try.ntmps11
  go_wp2_with (go_at_call 25; refine (possible_any _ _).mono ?_; rintro e w' ⟨rfl, rfl⟩)
  go_loopw [5, 6] (fun v i wr => ∃ (k : Nat) (es : List UEv), k ≤ l.length ∧ i = .int .i64 k ∧ wr.ownsRow w.heap.size 40 3 v es.length (uevCells es) ∧ es ++ chars l p k = chars l p 0 ∧ Below w.heap.size w wr) (fun _ i _ => l.length - (intOf i).toNat)
  case atStart => exact ⟨0, [], by omega, rfl, World.ownsRow_nil _ _ _ _, rfl, Below.refl _ _⟩
  case round =>
    obtain ⟨k, es, hk, rfl, hown, hes, hbw⟩ := hrel
    have hesl : es.length ≤ 100000 := by
      have h1 := congrArg List.length hes
      rw [List.length_append] at h1
      have h2 := chars_len l p l.length 0 (by omega)
      omega
    have HES := Lib.hid hes; clear hes
    obtain ⟨d, d1, d2, d3⟩ := first_zero (l.drop k)
    have hdl : (l.drop k).length = l.length - k := List.length_drop
    rw [hdl] at d1 d3
    have hA : ∀ A', A' = (if c = k then A else A.map (·.add (k * 1))) → Rd wr w.heap.size 1 A' (l.length - k) ((l.drop k).map Value.bool) := fun A' e => by
      rw [e]; have h := (HR.out.below hbw (Nat.le_refl _)).cut hk hlc; rw [List.map_drop]; rw [Nat.mul_one] at h ⊢; exact h
    have HA := Lib.hid hA
    have HI := Lib.hid (fun (A' : Option Addr) (c' : Nat) (r : Int) (h : Rd wr w.heap.size 1 A' (l.length - k) ((l.drop k).map Value.bool)) (he : (if d < l.length - k then (d : Int) else -1) = r) => index_eq (l.drop k) (l.length - k) d r A' c' w.heap.size wr h (by omega) d1 d2 d3 he)
    have D2 := Lib.hid d2; have D3 := Lib.hid d3
    clear hA d2 d3 hdl
    by_cases hck : c = k
    · obtain rfl : k = l.length := by omega
      have hfin : es = chars l p 0 := by rw [← HES.out, chars_short l p _ (by omega), List.append_nil]
      have HF := Lib.hid hfin; clear hfin
      have h0 := HA.out A (by rw [if_pos hck])
      have h1 := HI.out A (c - l.length) (-1) h0 (by rw [if_neg (by omega)])
      rw [Nat.sub_self] at h1
      rw [hck, Nat.sub_self] at h1
      have H1 := Lib.hid h1
      clear h0 h1 HI HA
      subst hck
      go_wp2_with fail
      refine H1.out.mono ?_
      rintro e w' ⟨rfl, rfl⟩
      go_wp2
      go_ret
      rw [← HF.out]
      exact ⟨_, rfl, hown, hbw⟩
    · have h0 := HA.out (A.map (·.add k)) (by rw [if_neg hck, Nat.mul_one])
      by_cases hend : d = l.length - k
      · have hfin : es = chars l p 0 := by
          rw [← HES.out, chars_skips l p k d (fun j hj => by rw [← bt_drop]; exact D2.out j hj), chars_short l p _ (by omega), List.append_nil]
        have HF := Lib.hid hfin; clear hfin
        have H1 := Lib.hid (HI.out _ (c - k) (-1) h0 (by rw [if_neg (by omega)]))
        clear h0 HI HA hend d1
        go_wp2_with fail
        refine H1.out.mono ?_
        rintro e w' ⟨rfl, rfl⟩
        go_wp2
        go_ret
        rw [← HF.out]
        exact ⟨_, rfl, hown, hbw⟩
      · have hdlt : k + d < l.length := by omega
        have H1 := Lib.hid (HI.out _ (c - k) (d : Int) h0 (by rw [if_pos (by omega)]))
        have hsk := chars_skips l p k d (fun j hj => by rw [← bt_drop]; exact D2.out j hj)
        have hbit : bt l (k + d) = false := by rw [← bt_drop]; exact D3.out (by omega)
        by_cases hsh : l.length < k + d + 11
        · have hfin : es = chars l p 0 := by rw [← HES.out, hsk, chars_short l p _ (by omega), List.append_nil]
          have HF := Lib.hid hfin
          clear hfin hsk hbit h0 HI HA hend d1
          go_wp2_with fail
          refine H1.out.mono ?_
          rintro e w' ⟨rfl, rfl⟩
          go_wp2
          go_ret
          rw [← HF.out]
          exact ⟨_, rfl, hown, hbw⟩
        · obtain ⟨b, off, rfl, hb, hRc⟩ := (HR.out.below hbw (Nat.le_refl _)).chr (i := k + d) (by omega) hlc
          obtain ⟨v, f, o, hch⟩ : ∃ v f o, chrAt l p (k + d) = (v, f, o) := ⟨_, _, _, rfl⟩
          have hnx : es ++ [(UEv.mk (k + d + 10) v f)] ++ chars l p (k + d + 11) = chars l p 0 := by
            rw [← HES.out, hsk, chr_eq hch (by omega) hbit]; simp
          have HN := Lib.hid hnx
          have HD := Lib.hid (decode_eqT ((l.drop (k + d)).take 11) 11 (some ⟨b, off + (k + d), none⟩) (c - (k + d)) w.heap.size p v f o wr hRc hch)
          have ea : Option.map (fun x : Addr => x.add k) (some (⟨b, off, none⟩ : Addr)) = some ⟨b, off + k, none⟩ := by simp [Addr.add]
          have h1 := H1.out
          rw [ea] at h1
          have H2 := Lib.hid h1
          have hcc : c ≠ k + d := by omega
          clear hnx hsk hbit h0 HI HA hend d1 ea h1 H1
          go_wp2_with fail
          refine H2.out.mono ?_
          rintro e w' ⟨rfl, rfl⟩
          go_wp2_with fail
          refine HD.out.mono ?_
          rintro e w' ⟨rfl, m, rfl⟩
          go_wp2_with (at_builtin; refine wpList_app (.tmp 46) (.tmp 53) 37 w.heap.size 40 _ 3 24 _ es.length 1 1 (uevCells es) Try.underlying37 uevInfo rfl (by decide) rfl rfl rfl rfl hown rfl (by simp [Value.oneCell']) (by omega) (by omega) hbw.size ?_; intro v1 w1 hown1 hg1 hb1)
          have hown2 : w1.ownsRow w.heap.size 40 3 v1 (es ++ [(UEv.mk (k + d + 10) v f)]).length (uevCells (es ++ [(UEv.mk (k + d + 10) v f)])) := by
            rw [uevCells_snoc, List.length_append]
            have e : uevRow (UEv.mk (k + d + 10) v f) = [.int .i64 ((k : Int) + d + 11 - 1), .int .u8 v, .int .i64 f] := by simp [uevRow]; omega
            rw [e]; exact hown1
          exact ⟨⟨k + d + 11, es ++ [(UEv.mk (k + d + 10) v f)], by omega, by go_num, hown2, HN.out, (below_drewN hbw m).trans hb1⟩, by simp [intOf]; omega⟩
end Go.Proofs.Ytoliplochipoeaa

/- Layer 7: the law UartLine: the plain law, and the walk. -/
import Derived.Test.YtcpcbgemnfpfjaaUartU
import Derived.Test.YtcpcbgemnfpfjaaMake
import Derived.Test.YtcpcbgemnfpfjaaBytesS
import Derived.IntWalk
import Derived.Test.YtcpcbgemnfpfjaaUartP
set_option linter.unusedVariables false
set_option linter.unusedSimpArgs false
namespace Go.Proofs.Ytcpcbgemnfpfjaa
open Go.RowKit

section
variable (bs ds : Nat → Nat) (p : Int)
/-- The bits of the first k characters, with idle bits between them. -/
def lineTo : Nat → List Bool
  | 0 => []
  | k + 1 => lineTo k ++ List.replicate (ds k) true ++ encode (bs k) p
def posTo : Nat → Nat
  | 0 => 0
  | k + 1 => posTo k + ds k + 11
def evAt (k : Nat) : Ev := ⟨posTo ds k + ds k + 10, bs k, 0⟩
theorem lineTo_length (hp : 0 ≤ p ∧ p ≤ 2) (k : Nat) : (lineTo bs ds p k).length = posTo ds k := by
  induction k with
  | zero => rfl
  | succ k ih => rw [lineTo, posTo, List.length_append, List.length_append, ih, List.length_replicate, enc_length _ _ hp]
theorem lineTo_tail (k n : Nat) (h : k < n) : ∃ t, lineTo bs ds p n = lineTo bs ds p k ++ List.replicate (ds k) true ++ encode (bs k) p ++ t := by
  induction n with
  | zero => omega
  | succ n ih =>
    by_cases hk : k = n
    · subst hk; exact ⟨[], by rw [lineTo, List.append_nil]⟩
    · obtain ⟨t, ht⟩ := ih (by omega)
      exact ⟨t ++ (List.replicate (ds n) true ++ encode (bs n) p), by rw [lineTo, ht]; simp [List.append_assoc]⟩
theorem bt_app (a b : List Bool) (k j : Nat) (h : a.length = k) : bt (a ++ b) (k + j) = bt b j := by
  subst h; simp [bt, List.getD, List.getElem?_append_right]
theorem bt_rep (d j : Nat) (b : List Bool) (h : j < d) : bt (List.replicate d true ++ b) j = true := by
  simp [bt, List.getD, List.getElem?_append_left, h]
theorem line_chars (hp : 0 ≤ p ∧ p ≤ 2) (hb : ∀ k, bs k ≤ 255) (n : Nat) : ∀ k, k ≤ n → chars (lineTo bs ds p n ++ [true, true]) p 0 = (List.range k).map (evAt bs ds) ++ chars (lineTo bs ds p n ++ [true, true]) p (posTo ds k) := by
  intro k
  induction k with
  | zero => intro _; rfl
  | succ k ih =>
    intro hk
    rw [ih (by omega), List.range_succ, List.map_append, List.append_assoc]
    congr 1
    obtain ⟨t, ht⟩ := lineTo_tail bs ds p k n (by omega)
    have hL : lineTo bs ds p n ++ [true, true] = lineTo bs ds p k ++ (List.replicate (ds k) true ++ (encode (bs k) p ++ (t ++ [true, true]))) := by rw [ht]; simp [List.append_assoc]
    have hlen := lineTo_length bs ds p hp k
    have he := enc_length (bs k) p hp
    generalize hLL : lineTo bs ds p n ++ [true, true] = L at hL ⊢
    have h1 : ∀ j, j < ds k → bt L (posTo ds k + j) = true := fun j hj => by rw [hL, bt_app _ _ _ _ hlen]; exact bt_rep _ _ _ hj
    have hA : (lineTo bs ds p k ++ List.replicate (ds k) true).length = posTo ds k + ds k := by rw [List.length_append, hlen, List.length_replicate]
    have hL2 : L = (lineTo bs ds p k ++ List.replicate (ds k) true) ++ (encode (bs k) p ++ (t ++ [true, true])) := by rw [hL]; simp [List.append_assoc]
    have h2 : bt L (posTo ds k + ds k) = false := by
      have := bt_app (lineTo bs ds p k ++ List.replicate (ds k) true) (encode (bs k) p ++ (t ++ [true, true])) (posTo ds k + ds k) 0 hA
      rw [Nat.add_zero, ← hL2] at this
      rw [this, encode, if_pos hp]; simp [bt]
    have h3 : (L.drop (posTo ds k + ds k)).take 11 = encode (bs k) p := by
      rw [hL2, ← hA, List.drop_left, ← he, List.take_left]
    have h4 : posTo ds k + ds k + 11 ≤ L.length := by
      rw [hL2, List.length_append, hA, List.length_append, he]; omega
    have h5 : chrAt L p (posTo ds k + ds k) = (bs k, 0, true) := by
      rw [chrAt, h3]; exact dec_enc _ (hb k) _ hp
    rw [chars_skips L p _ _ h1, chr_eq h5 h4 h2]
    rfl
theorem line_all (hp : 0 ≤ p ∧ p ≤ 2) (hb : ∀ k, bs k ≤ 255) (n : Nat) : streamL (lineTo bs ds p n ++ [true, true]) p = (List.range n).map (evAt bs ds) := by
  rw [streamL, if_pos hp, line_chars bs ds p hp hb n n (Nat.le_refl _)]
  have : chars (lineTo bs ds p n ++ [true, true]) p (posTo ds n) = [] := by
    apply chars_short
    rw [List.length_append, lineTo_length bs ds p hp]; simp
  rw [this, List.append_nil]
end

theorem bytes_eq (A : Option Addr) (n c m r : Nat) (w : World) (hl : n ≤ c) (hc : c ≤ maxLen) (hm : m ≤ 1000000) (h : min n m = r) :
    Calls Try.prog 18 #[.slice A n c, .int .i64 m] w fun e w' => e = .returned (.slice A r c) ∧ w = w' := by
  unfold maxLen at hc
  by_cases h' : n ≤ m
  · obtain rfl : n = r := by omega
    clear h
    go_enter Try.func18, Try.ntmps18
    go_wp2
    go_ret
    exact ⟨rfl, rfl⟩
  · obtain rfl : m = r := by omega
    have h2 : m < n := by omega
    clear h h'
    go_enter Try.func18, Try.ntmps18
    go_wp2
    go_ret
    exact ⟨rfl, rfl⟩
theorem mod_eq (x n r : Int) (hn : 1 ≤ n) (hn2 : n ≤ 1000000000) (h : x % n = r) (w : World) : Calls Try.prog 15 #[.int .i64 x, .int .i64 n] w fun e w' => e = .returned (.int .i64 r) ∧ w = w' := by
  subst h; exact mod_any x n hn hn2 w
def bsOf (xs : List Int) (k : Nat) : Nat := (xs.getD k 0).toNat
def dsOf (is : List Int) (k : Nat) : Nat := if k < is.length then (is.getD k 0).toNat % 9 else 0
theorem dsOf_le (is : List Int) (k : Nat) : dsOf is k ≤ 8 := by unfold dsOf; split <;> omega
theorem posTo_le (ds : Nat → Nat) (h : ∀ k, ds k ≤ 8) (k : Nat) : posTo ds k ≤ 19 * k := by
  induction k with
  | zero => simp [posTo]
  | succ k ih => have := h k; rw [posTo]; omega
theorem bsOf_le {xs : List Int} (hx : ∀ x ∈ xs, 0 ≤ x ∧ x ≤ 255) (k : Nat) : bsOf xs k ≤ 255 := by
  unfold bsOf
  by_cases h : k < xs.length
  · have := hx xs[k] (List.getElem_mem h)
    simp [List.getD, List.getElem?_eq_getElem h]; omega
  · simp [List.getD, List.getElem?_eq_none (show xs.length ≤ k by omega)]
theorem own_form2 {w : World} {base : Nat} {e : TypeId} {size n : Nat} {v : Value} {xs : List Value} (h : w.ownsRow base e size v n xs) :
    ∃ A c, v = .slice A n c ∧ n ≤ c ∧ c ≤ maxLen ∧ Rd w w.heap.size size A n xs := by
  rcases h.2 with ⟨rfl, rfl⟩ | ⟨g, cap, cur, rfl, _, _, hc, hm, _⟩
  · exact ⟨none, 0, rfl, Nat.le_refl _, by simp, Rd.of_own h⟩
  · exact ⟨_, _, rfl, hc, hm, Rd.of_own h⟩
theorem byte_at {w : World} {B n : Nat} {A : Option Addr} {xs : List Int} (h : Rd w B 1 A n (by8 xs)) (hx : ∀ x ∈ xs, 0 ≤ x ∧ x ≤ 255) (k : Nat) (hk : k < n) : ∃ b off, A = some ⟨b, off, none⟩ ∧ bsOf xs k ≤ 255 ∧ w.cell? ⟨b, off + k, none⟩ = some (.int .u8 (bsOf xs k)) := by
  have hl : xs.length = n := by have := h.1; simpa using this
  obtain ⟨b, off, e, _, hc⟩ := h.2 (by omega)
  have hkx : k < xs.length := by omega
  have hb := hx xs[k] (List.getElem_mem hkx)
  have e1 : ((bsOf xs k : Nat) : Int) = xs[k] := by simp [bsOf, List.getD, List.getElem?_eq_getElem hkx]; omega
  exact ⟨b, off, e, by omega, by rw [e1]; exact hc k _ (by simp [List.getElem?_eq_getElem hkx])⟩

set_option maxRecDepth 100000 in
set_option maxHeartbeats 2000000 in
theorem lawLine_any (A : Option Addr) (n0 c0 : Nat) (xs0 : List Int) (p0 : Int) (A2 : Option Addr) (n2 c2 : Nat) (is : List Int) (w : World) (hr0 : Rd w w.heap.size 1 A n0 (by8 xs0)) (hl : n0 ≤ c0) (hc : c0 ≤ maxLen) (hx0 : ∀ x ∈ xs0, 0 ≤ x ∧ x ≤ 255)
    (hi : Rd w w.heap.size 1 A2 n2 (by8 is)) (hl2 : n2 ≤ c2) (hc2 : c2 ≤ maxLen) (hxi : ∀ x ∈ is, 0 ≤ x ∧ x ≤ 255) :
    Calls Try.prog 8 #[.slice A n0 c0, .int .i64 p0, .slice A2 n2 c2] w fun e w' => e = .returned (.bool true) ∧ Below w.heap.size w w' := by
  obtain ⟨m, hm⟩ : ∃ m, min n0 20 = m := ⟨_, rfl⟩
  have hm20 : m ≤ 20 := by omega
  have hr := hr0.take (k := m) (by omega)
  obtain ⟨xs, hxs⟩ : ∃ xs, xs0.take m = xs := ⟨_, rfl⟩
  rw [Nat.mul_one, by8, ← List.map_take, hxs] at hr
  have hx : ∀ x ∈ xs, 0 ≤ x ∧ x ≤ 255 := fun x h => hx0 x (List.mem_of_mem_take (hxs ▸ h))
  obtain ⟨p, hp⟩ : ∃ p, p0 % 3 = p := ⟨_, rfl⟩
  have hp2 : 0 ≤ p ∧ p ≤ 2 := by omega
  have HB := Lib.hid (fun w => bytes_eq A n0 c0 20 m w hl hc (by omega) hm)
  have HM := Lib.hid (fun w => mod_eq p0 3 p (by omega) (by omega) hp w)
  have hil : is.length = n2 := by have := hi.1; simpa using this
  have HX := Lib.hid (fun (W : World) (h : Below w.heap.size w W) => byte_at (hr.below h (Nat.le_refl _)) hx)
  have HI := Lib.hid (fun (W : World) (h : Below w.heap.size w W) => byte_at (hi.below h (Nat.le_refl _)) hxi)
  have HP := Lib.hid hp2
  have HBS := Lib.hid (bsOf_le hx)
  have HIL := Lib.hid hil
  have hn2 : n2 ≤ maxLen := by omega
  unfold maxLen at hn2
  clear hr0 hl hc hx0 hi hl2 hc2 hxi hm hr hxs hx hp hil
  obtain ⟨hp0, hp1⟩ := hp2
  go_enter Try.func8, Try.ntmps8
  go_wp2_with fail
  refine (HB.out _).mono ?_
  rintro e w' ⟨rfl, rfl⟩
  go_wp2_with fail
  refine (HM.out _).mono ?_
  rintro e w' ⟨rfl, rfl⟩
  go_wp2_with fail
  go_loopw [7, 8] (fun v i wr => ∃ k : Nat, k ≤ m ∧ i = .int .i64 k ∧ wr.ownsRow w.heap.size 4 1 v (posTo (dsOf is) k) ((lineTo (bsOf xs) (dsOf is) p k).map Value.bool) ∧ Below w.heap.size w wr) (fun _ i _ => m - (intOf i).toNat)
  case atStart => exact ⟨0, by omega, rfl, World.ownsRow_nil _ _ _ _, Below.refl _ _⟩
  case round =>
    obtain ⟨k, hk, rfl, hown, hbw⟩ := hrel
    have hpos := posTo_le (dsOf is) (dsOf_le is) k
    have hd8 := dsOf_le is k
    by_cases hlt : k < m
    · go_wp2_with fail
      obtain ⟨wo, hwo⟩ : ∃ wo : World, wo = wr := ⟨_, rfl⟩
      subst hwo
      go_loopw [7, 9] (fun v j wq => ∃ i : Nat, i ≤ dsOf is k ∧ j = .int .i64 i ∧ wq.ownsRow w.heap.size 4 1 v (posTo (dsOf is) k + i) ((lineTo (bsOf xs) (dsOf is) p k ++ List.replicate i true).map Value.bool) ∧ Below w.heap.size w wq) (fun _ j _ => dsOf is k - (intOf j).toNat)
      case atStart => exact ⟨0, by omega, rfl, by simpa using hown, hbw⟩
      case round =>
        obtain ⟨j, hj, rfl, hown1, hbq⟩ := hrel
        clear hown hbw
        by_cases hlt2 : j < dsOf is k
        · have hkn : k < n2 := by
            rcases Nat.lt_or_ge k n2 with h | h
            · exact h
            · rw [dsOf, if_neg (by rw [HIL.out]; omega)] at hlt2; omega
          obtain ⟨bb, off, rfl, hby, hcell⟩ := HI.out _ hbq k hkn
          have hdy : (j : Int) < (bsOf is k : Int) % 9 := by
            have : dsOf is k = bsOf is k % 9 := by rw [dsOf, if_pos (by rw [HIL.out]; omega)]; rfl
            omega
          go_wp2_with (at_builtin; refine wpList_app (.tmp 38) (.tmp 39) 22 w.heap.size 4 _ 1 1 _ (posTo (dsOf is) k + j) 1 1 _ Try.underlying22 boolInfo rfl (by decide) rfl rfl rfl rfl hown1 rfl (by simp [Value.oneCell']) (by omega) (by omega) hbq.size ?_; intro v1 w1 hown2 hg1 hb1)
          refine ⟨⟨j + 1, by omega, by go_num, ?_, hbq.trans hb1⟩, by simp [intOf]; omega⟩
          rw [List.replicate_succ', ← List.append_assoc, List.map_append]
          exact hown2
        · obtain rfl : j = dsOf is k := by omega
          obtain ⟨bb, off, rfl, hbx, hcx⟩ := HX.out _ hbq k hlt
          obtain ⟨bv, hbv⟩ : ∃ bv, bsOf xs k = bv := ⟨_, rfl⟩
          rw [hbv] at hbx hcx
          obtain ⟨el, hel⟩ : ∃ el, encode bv p = el := ⟨_, rfl⟩
          have hlen : el.length = 11 := by rw [← hel]; exact enc_length _ _ HP.out
          have HE := Lib.hid (fun w => encode_eq bv hbx p el 11 hel hlen w)
          have hnx : (lineTo (bsOf xs) (dsOf is) p k ++ List.replicate (dsOf is k) true).map Value.bool ++ el.map Value.bool = (lineTo (bsOf xs) (dsOf is) p (k + 1)).map Value.bool := by
            rw [lineTo, hbv, hel, List.map_append (l₁ := lineTo (bsOf xs) (dsOf is) p k ++ List.replicate (dsOf is k) true)]
          have HNX := Lib.hid hnx
          have hpn : posTo (dsOf is) k + dsOf is k + 11 = posTo (dsOf is) (k + 1) := rfl
          have HPN := Lib.hid hpn
          have h1b := one_bools el
          have H1 := Lib.hid h1b
          clear hbv hel hlen hnx hpn h1b hlt2
          by_cases hkn : k < n2
          · obtain ⟨b2, o2, rfl, hby, hcell⟩ := HI.out _ hbq k hkn
            have hdy : (bsOf is k : Int) % 9 ≤ (dsOf is k : Int) := by
              have : dsOf is k = bsOf is k % 9 := by rw [dsOf, if_pos (by rw [HIL.out]; omega)]; rfl
              omega
            go_wp2_with fail
            refine (HE.out _).mono ?_
            rintro e w1 ⟨A1, c1, rfl, hown3, hR3, hb3⟩
            have hown4 := own_below hown1 hb3 (Nat.le_refl _)
            have hbq3 := ext_trans hbq hb3
            go_wp2_with (at_builtin; refine wpList_appR (.tmp 41) (.tmp 47) 22 w.heap.size 4 _ 1 1 _ (posTo (dsOf is) k + dsOf is k) _ w1.heap.size A1 11 c1 _ Try.underlying22 boolInfo rfl (by decide) rfl rfl rfl rfl hown4 hR3 H1.out (by omega) (by omega) hbq3.size ?_; intro v1 w2 hown5 hg1 hb1)
            refine ⟨⟨k + 1, by omega, by go_num, ?_, hbq3.trans hb1⟩, by simp [intOf]; omega⟩
            rw [← HPN.out, ← HNX.out]
            exact hown5
          · go_wp2_with fail
            refine (HE.out _).mono ?_
            rintro e w1 ⟨A1, c1, rfl, hown3, hR3, hb3⟩
            have hown4 := own_below hown1 hb3 (Nat.le_refl _)
            have hbq3 := ext_trans hbq hb3
            go_wp2_with (at_builtin; refine wpList_appR (.tmp 41) (.tmp 47) 22 w.heap.size 4 _ 1 1 _ (posTo (dsOf is) k + dsOf is k) _ w1.heap.size A1 11 c1 _ Try.underlying22 boolInfo rfl (by decide) rfl rfl rfl rfl hown4 hR3 H1.out (by omega) (by omega) hbq3.size ?_; intro v1 w2 hown5 hg1 hb1)
            refine ⟨⟨k + 1, by omega, by go_num, ?_, hbq3.trans hb1⟩, by simp [intOf]; omega⟩
            rw [← HPN.out, ← HNX.out]
            exact hown5
    · obtain rfl : k = m := by omega
      have hall := line_all (bsOf xs) (dsOf is) p HP.out HBS.out k
      have HALL := Lib.hid hall
      clear hall
      go_wp2_with (at_builtin; refine wpList_app (.tmp 49) (.tmp 50) 22 w.heap.size 4 _ 1 1 _ (posTo (dsOf is) k) 2 2 _ Try.underlying22 boolInfo rfl (by decide) rfl rfl rfl rfl hown rfl (by simp [Value.oneCell']) (by omega) (by omega) hbw.size ?_; intro v1 w1 hown1 hg1 hb1)
      obtain ⟨A1, c1, rfl, hc1, hm1, hR1⟩ := own_form2 hown1
      have e1 : (lineTo (bsOf xs) (dsOf is) p k).map Value.bool ++ [Value.bool true, Value.bool true] = (lineTo (bsOf xs) (dsOf is) p k ++ [true, true]).map Value.bool := by simp
      rw [e1] at hR1
      have HS := Lib.hid (stream_eq (lineTo (bsOf xs) (dsOf is) p k ++ [true, true]) (posTo (dsOf is) k + 2) _ k A1 c1 _ p w1 hR1 hc1 hm1 (by omega) HALL.out (by simp))
      have hbw1 := hbw.trans hb1
      clear hR1 e1 hown1 hg1 hb1 hown hbw
      go_wp2_with fail
      refine HS.out.mono ?_
      rintro e w2 ⟨A3, c3, rfl, hown2, hb2⟩
      have HR2 := Lib.hid (Rd.of_own hown2)
      have hbw2 := ext_trans hbw1 hb2
      clear hown2 hb2 HS
      go_wp2_with fail
      go_loopw [11] (fun i wr => ∃ j : Nat, j ≤ k ∧ i = .int .i64 j ∧ Below w2.heap.size w2 wr) (fun i _ => k - (intOf i).toNat)
      case atStart => exact ⟨0, by omega, rfl, Below.refl _ _⟩
      case round =>
        obtain ⟨j, hj, rfl, hbr⟩ := hrel
        by_cases hlt2 : j < k
        · have hbq := ext_trans hbw2 hbr
          obtain ⟨b1, o1, rfl, hbx, hcx⟩ := HX.out _ hbq j hlt2
          have hR3 := HR2.out.below hbr (Nat.le_refl _)
          obtain ⟨b3, o3, rfl, x0, x1, x2⟩ := ev_cells hR3 j (by simpa using hlt2) hlt2
          simp only [List.getElem_map, List.getElem_range, evAt] at x0 x1 x2
          rcases j with _ | j
          · simp at hcx x0 x1 x2
            go_wp2_with fail
            go_quiet (fail)
            go_wp2
            exact ⟨⟨1, by omega, rfl, below_drewN hbr _⟩, by simp [intOf]; omega⟩
          · obtain ⟨_, _, e3, y0, y1, y2⟩ := ev_cells hR3 j (by simp; omega) (by omega)
            obtain ⟨rfl, rfl⟩ : b3 = _ ∧ o3 = _ := by injection e3 with e3; injection e3 with e1 e2; exact ⟨e1, e2⟩
            simp only [List.getElem_map, List.getElem_range, evAt] at y0 y1 y2
            have hle : posTo (dsOf is) j + dsOf is j + 10 + 11 ≤ posTo (dsOf is) (j + 1) + dsOf is (j + 1) + 10 := by rw [posTo]; omega
            have hb1 := posTo_le (dsOf is) (dsOf_le is) (j + 1)
            have hb2 := dsOf_le is (j + 1)
            obtain ⟨a1, ha1⟩ : ∃ a1, posTo (dsOf is) (j + 1) + dsOf is (j + 1) + 10 = a1 := ⟨_, rfl⟩
            obtain ⟨a0, ha0⟩ : ∃ a0, posTo (dsOf is) j + dsOf is j + 10 = a0 := ⟨_, rfl⟩
            rw [ha1] at x0 hle
            rw [ha0] at y0 hle
            have ha1b : a1 ≤ 1000 := by omega
            clear y1 y2 e3 hb1 hb2 ha0 ha1
            have f1 : decide ((a1 : Int) < (a0 : Int) + 11) = false := by simp; omega
            have f2 : IntKind.i64.wrap ((a0 : Int) + 11) = (a0 : Int) + 11 := IntWalk.i64_in _ ⟨by omega, by omega⟩
            have f3 : IntKind.i64.wrap ((j : Int) + 1 - 1) = (j : Int) := by rw [IntWalk.i64_in _ ⟨by omega, by omega⟩]; omega
            go_wp2_with fail
            go_quiet (fail)
            go_wp2
            exact ⟨⟨j + 2, by omega, by go_num, below_drewN hbr _⟩, by simp [intOf]; omega⟩
        · obtain rfl : j = k := by omega
          go_wp2_with fail
          refine (awake_any _).mono ?_
          rintro e w3 ⟨rfl, hb3⟩
          go_wp2
          go_ret
          exact ⟨rfl, ext_trans (ext_trans hbw2 hbr) hb3⟩
end Go.Proofs.Ytcpcbgemnfpfjaa

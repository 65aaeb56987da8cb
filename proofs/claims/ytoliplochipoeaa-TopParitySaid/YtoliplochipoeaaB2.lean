import Derived.Test.YtoliplochipoeaaRows
import Derived.Laws.BytesArg
import Derived.Lib.SliceRun
import Derived.IntWalk
import Derived.Deep.OwnRows
import Derived.OwnWalk
import Derived.Deep.RegionHeld3
import Derived.OrdersHeld
import Derived.RegionTactic
import Derived.Deep.QuietTactic
import Derived.BigQuiet
import Derived.Test.YtoliplochipoeaaB1
/- Slices of bytes: slices.Clone, the conversion to a string. -/
set_option linter.unusedVariables false
set_option linter.unusedSimpArgs false
namespace Go.Proofs.Ytoliplochipoeaa
open Go.RowKit

abbrev by8 (xs : List Int) : List Value := xs.map (Value.int .u8)
theorem one_ints (k : IntKind) (l : List Int) : ∀ u ∈ l.map (Value.int k), u.oneCell' = true := by
  intro u hu
  obtain ⟨x, _, rfl⟩ := List.mem_map.1 hu
  rfl
theorem byteInfo : (Try.prog.info? 5).map (fun i => (i.zero, i.size, i.bytes)) = some (some (.int .u8 0), 1, 1) := by kernel_rfl
theorem Rd.str {w : World} {B n c : Nat} {A : Option Addr} {xs : List Int} (h : Rd w B 1 A n (by8 xs)) : (convert 22 9 (.slice A n c)).run Try.prog w = .ok (.string (strOfNums xs)) w := by
  have hl : xs.length = n := by have := h.1; simpa using this
  rcases Nat.eq_zero_or_pos n with h0 | h0
  · subst h0
    have hx : xs = [] := List.eq_nil_of_length_eq_zero hl
    subst hx
    rw [run_convert_bytes_string w 22 9 5 A 0 c Try.underlying22 Try.underlying5 Try.underlying9]
    cases A <;> simp [Conv.bytesToString, loadCells, strOfNums] <;> rfl
  · obtain ⟨b, off, rfl, _, hc⟩ := h.2 h0
    exact run_convert_bytes_arg w 22 5 Try.underlying22 Try.underlying5 b off n c xs hl (fun i hi => by
      have := hc i (.int .u8 (xs.getD i 0)) (by simp [List.getD, List.getElem?_eq_getElem (show i < xs.length by omega)])
      exact this) _ Try.underlying9

theorem clone_any (A : Option Addr) (n c B : Nat) (xs : List Int) (w : World) (hr : Rd w B 1 A n (by8 xs)) (hn : n ≤ 100000) :
    Calls Try.prog 35 #[.slice A n c] w fun e w' => ∃ v, e = .returned v ∧ w'.ownsRow w.heap.size 5 1 v n (by8 xs) ∧ Below w.heap.size w w' := by
  rcases A with _ | ad
  · have hl : n = 0 := by
      rcases Nat.eq_zero_or_pos n with h0 | h0
      · exact h0
      · obtain ⟨b, off, h, _⟩ := hr.2 h0; cases h
    subst hl
    have hx : xs = [] := List.eq_nil_of_length_eq_zero (by have := hr.1; simpa using this)
    subst hx
    have he : ∀ w, (binOp .eql 22 (.slice none 0 c) (.slice none 0 0)).run Try.prog w = .ok (.bool true) w := fun w =>
      Lib.run_eql_slice_nil w _ _ _ _ _ _ _ Try.underlying22
    clear hr
    go_enter Try.func35, Try.ntmps35
    go_wp2
    go_ret
    exact ⟨_, rfl, World.ownsRow_nil _ _ _ _, Below.refl _ _⟩
  · have he : ∀ w, (binOp .eql 22 (.slice (some ad) n c) (.slice none 0 0)).run Try.prog w = .ok (.bool false) w := fun w =>
      Lib.run_eql_slice_nil w _ _ _ _ _ _ _ Try.underlying22
    have hr := hr.fits (by decide)
    go_enter Try.func35, Try.ntmps35
    go_wp2_with (at_builtin; refine wpList_appR (.tmp 5) (.tmp 6) 22 w.heap.size 5 _ 1 1 _ 0 [] w.heap.size (some ad) n c _ Try.underlying22 byteInfo rfl (by decide) rfl rfl rfl rfl (World.ownsRow_lit _ _ 0 (Nat.le_refl _) (by simp [maxLen]) rfl) (hr.alloc' _ (Nat.le_refl _)) (one_ints _ _) (by omega) (by omega) (by simp) ?_; intro v2 w2 hown2 hg2 hb2)
    go_ret
    exact ⟨_, rfl, by simpa using hown2, ((Below.refl _ w).alloc (Nat.le_refl _) _).trans hb2⟩
end Go.Proofs.Ytoliplochipoeaa

/- Plain facts on characters: one changed bit. -/
set_option linter.unusedVariables false
set_option linter.unusedSimpArgs false
namespace Go.Proofs.Ytoliplochipoeaa
theorem one_bools (l : List Bool) : ∀ u ∈ l.map Value.bool, u.oneCell' = true := by
  intro u hu
  obtain ⟨x, _, rfl⟩ := List.mem_map.1 hu
  rfl
def flipAt (b : Nat) (p : Int) (k : Nat) : List Bool := (encode b p).set k (!bt (encode b p) k)
def wantF (p : Int) (k : Nat) : Int := if k = 10 ∨ k = 9 ∧ p = 0 then 2 else if p = 0 then 0 else 1
theorem flip_all : ∀ k : Fin 10, ∀ b : Fin 256, ∀ p : Fin 3, (decode (flipAt b (p : Nat) (k + 1)) (p : Nat)).2 = (wantF (p : Nat) (k + 1), true) ∧ decide (9 ≤ (k : Nat) + 1) = ((decode (flipAt b (p : Nat) (k + 1)) (p : Nat)).1 == (b : Nat)) := by decide +kernel
theorem flip_dec (b : Nat) (hb : b ≤ 255) (p : Int) (hp : 0 ≤ p ∧ p ≤ 2) (k : Nat) (hk : 1 ≤ k ∧ k ≤ 10) : ∃ x : Nat, decode (flipAt b p k) p = (x, wantF p k, true) ∧ decide (9 ≤ k) = (x == b) := by
  have h := flip_all ⟨k - 1, by omega⟩ ⟨b, by omega⟩ ⟨p.toNat, by omega⟩
  have e1 : k - 1 + 1 = k := by omega
  have e2 : ((p.toNat : Nat) : Int) = p := Int.toNat_of_nonneg hp.1
  simp only [e1, e2] at h
  exact ⟨_, Prod.ext rfl h.1, h.2⟩


end Go.Proofs.Ytoliplochipoeaa

/- Layer 7: the law UartLine: the plain law, and the walk. -/
set_option linter.unusedVariables false
set_option linter.unusedSimpArgs false
namespace Go.Proofs.Ytoliplochipoeaa
open Go.RowKit

section
variable (bs ds : Nat → Nat) (p : Int)
/-- The bits of the first k characters, with idle bits between them. -/
def lineTo : Nat → List Bool
  | 0 => []
  | k + 1 => lineTo k ++ List.replicate (ds k) true ++ encode (bs k) p
def posTo : Nat → Nat
  | 0 => 0
  | k + 1 => posTo k + ds k + 11
def evAt (k : Nat) : UEv := ⟨posTo ds k + ds k + 10, bs k, 0⟩
theorem lineTo_length (hp : 0 ≤ p ∧ p ≤ 2) (k : Nat) : (lineTo bs ds p k).length = posTo ds k := by
  induction k with
  | zero => rfl
  | succ k ih => rw [lineTo, posTo, List.length_append, List.length_append, ih, List.length_replicate, enc_length _ _ hp]
theorem lineTo_tail (k n : Nat) (h : k < n) : ∃ t, lineTo bs ds p n = lineTo bs ds p k ++ List.replicate (ds k) true ++ encode (bs k) p ++ t := by
  induction n with
  | zero => omega
  | succ n ih =>
    by_cases hk : k = n
    · subst hk; exact ⟨[], by rw [lineTo, List.append_nil]⟩
    · obtain ⟨t, ht⟩ := ih (by omega)
      exact ⟨t ++ (List.replicate (ds n) true ++ encode (bs n) p), by rw [lineTo, ht]; simp [List.append_assoc]⟩
theorem bt_app (a b : List Bool) (k j : Nat) (h : a.length = k) : bt (a ++ b) (k + j) = bt b j := by
  subst h; simp [bt, List.getD, List.getElem?_append_right]
theorem bt_rep (d j : Nat) (b : List Bool) (h : j < d) : bt (List.replicate d true ++ b) j = true := by
  simp [bt, List.getD, List.getElem?_append_left, h]
theorem line_chars (hp : 0 ≤ p ∧ p ≤ 2) (hb : ∀ k, bs k ≤ 255) (n : Nat) : ∀ k, k ≤ n → chars (lineTo bs ds p n ++ [true, true]) p 0 = (List.range k).map (evAt bs ds) ++ chars (lineTo bs ds p n ++ [true, true]) p (posTo ds k) := by
  intro k
  induction k with
  | zero => intro _; rfl
  | succ k ih =>
    intro hk
    rw [ih (by omega), List.range_succ, List.map_append, List.append_assoc]
    congr 1
    obtain ⟨t, ht⟩ := lineTo_tail bs ds p k n (by omega)
    have hL : lineTo bs ds p n ++ [true, true] = lineTo bs ds p k ++ (List.replicate (ds k) true ++ (encode (bs k) p ++ (t ++ [true, true]))) := by rw [ht]; simp [List.append_assoc]
    have hlen := lineTo_length bs ds p hp k
    have he := enc_length (bs k) p hp
    generalize hLL : lineTo bs ds p n ++ [true, true] = L at hL ⊢
    have h1 : ∀ j, j < ds k → bt L (posTo ds k + j) = true := fun j hj => by rw [hL, bt_app _ _ _ _ hlen]; exact bt_rep _ _ _ hj
    have hA : (lineTo bs ds p k ++ List.replicate (ds k) true).length = posTo ds k + ds k := by rw [List.length_append, hlen, List.length_replicate]
    have hL2 : L = (lineTo bs ds p k ++ List.replicate (ds k) true) ++ (encode (bs k) p ++ (t ++ [true, true])) := by rw [hL]; simp [List.append_assoc]
    have h2 : bt L (posTo ds k + ds k) = false := by
      have := bt_app (lineTo bs ds p k ++ List.replicate (ds k) true) (encode (bs k) p ++ (t ++ [true, true])) (posTo ds k + ds k) 0 hA
      rw [Nat.add_zero, ← hL2] at this
      rw [this, encode, if_pos hp]; simp [bt]
    have h3 : (L.drop (posTo ds k + ds k)).take 11 = encode (bs k) p := by
      rw [hL2, ← hA, List.drop_left, ← he, List.take_left]
    have h4 : posTo ds k + ds k + 11 ≤ L.length := by
      rw [hL2, List.length_append, hA, List.length_append, he]; omega
    have h5 : chrAt L p (posTo ds k + ds k) = (bs k, 0, true) := by
      rw [chrAt, h3]; exact dec_enc _ (hb k) _ hp
    rw [chars_skips L p _ _ h1, chr_eq h5 h4 h2]
    rfl
theorem line_all (hp : 0 ≤ p ∧ p ≤ 2) (hb : ∀ k, bs k ≤ 255) (n : Nat) : streamL (lineTo bs ds p n ++ [true, true]) p = (List.range n).map (evAt bs ds) := by
  rw [streamL, if_pos hp, line_chars bs ds p hp hb n n (Nat.le_refl _)]
  have : chars (lineTo bs ds p n ++ [true, true]) p (posTo ds n) = [] := by
    apply chars_short
    rw [List.length_append, lineTo_length bs ds p hp]; simp
  rw [this, List.append_nil]
end

theorem mod_eq (x n r : Int) (hn : 1 ≤ n) (hn2 : n ≤ 1000000000) (h : x % n = r) (w : World) : Calls Try.prog 6 #[.int .i64 x, .int .i64 n] w fun e w' => e = .returned (.int .i64 r) ∧ w = w' := by
  subst h; exact mod_any x n hn hn2 w
def bsOf (xs : List Int) (k : Nat) : Nat := (xs.getD k 0).toNat
def dsOf (is : List Int) (k : Nat) : Nat := if k < is.length then (is.getD k 0).toNat % 9 else 0
theorem dsOf_le (is : List Int) (k : Nat) : dsOf is k ≤ 8 := by unfold dsOf; split <;> omega
theorem posTo_le (ds : Nat → Nat) (h : ∀ k, ds k ≤ 8) (k : Nat) : posTo ds k ≤ 19 * k := by
  induction k with
  | zero => simp [posTo]
  | succ k ih => have := h k; rw [posTo]; omega
theorem bsOf_le {xs : List Int} (hx : ∀ x ∈ xs, 0 ≤ x ∧ x ≤ 255) (k : Nat) : bsOf xs k ≤ 255 := by
  unfold bsOf
  by_cases h : k < xs.length
  · have := hx xs[k] (List.getElem_mem h)
    simp [List.getD, List.getElem?_eq_getElem h]; omega
  · simp [List.getD, List.getElem?_eq_none (show xs.length ≤ k by omega)]
theorem own_form2 {w : World} {base : Nat} {e : TypeId} {size n : Nat} {v : Value} {xs : List Value} (h : w.ownsRow base e size v n xs) :
    ∃ A c, v = .slice A n c ∧ n ≤ c ∧ c ≤ maxLen ∧ Rd w w.heap.size size A n xs := by
  rcases h.2 with ⟨rfl, rfl⟩ | ⟨g, cap, cur, rfl, _, _, hc, hm, _⟩
  · exact ⟨none, 0, rfl, Nat.le_refl _, by simp, Rd.of_own h⟩
  · exact ⟨_, _, rfl, hc, hm, Rd.of_own h⟩
theorem byte_at {w : World} {B n : Nat} {A : Option Addr} {xs : List Int} (h : Rd w B 1 A n (by8 xs)) (hx : ∀ x ∈ xs, 0 ≤ x ∧ x ≤ 255) (k : Nat) (hk : k < n) : ∃ b off, A = some ⟨b, off, none⟩ ∧ bsOf xs k ≤ 255 ∧ w.cell? ⟨b, off + k, none⟩ = some (.int .u8 (bsOf xs k)) := by
  have hl : xs.length = n := by have := h.1; simpa using this
  obtain ⟨b, off, e, _, hc⟩ := h.2 (by omega)
  have hkx : k < xs.length := by omega
  have hb := hx xs[k] (List.getElem_mem hkx)
  have e1 : ((bsOf xs k : Nat) : Int) = xs[k] := by simp [bsOf, List.getD, List.getElem?_eq_getElem hkx]; omega
  exact ⟨b, off, e, by omega, by rw [e1]; exact hc k _ (by simp [List.getElem?_eq_getElem hkx])⟩

end Go.Proofs.Ytoliplochipoeaa

/- A box that is written. -/
set_option linter.unusedVariables false
set_option linter.unusedSimpArgs false
namespace Go.Proofs.Ytoliplochipoeaa
open Go.RowKit

theorem box_set {w : World} {b k : Nat} {cs : Array Value} (v : Value) (q : ∀ i, w.cell? ⟨b, i, none⟩ = cs[i]?) (z : ∀ i, w.frozen? ⟨b, i, none⟩ = false) (l : b < w.heap.size) (hk : k < cs.size) :
    (∀ i, (w.setCell ⟨b, k, none⟩ v).cell? ⟨b, i, none⟩ = (cs.setIfInBounds k v)[i]?) ∧ (∀ i, (w.setCell ⟨b, k, none⟩ v).frozen? ⟨b, i, none⟩ = false) ∧ b < (w.setCell ⟨b, k, none⟩ v).heap.size := by
  refine ⟨fun i => ?_, fun i => (World.frozen?_setCell _ _ _ _).trans (z i), by simpa [World.setCell] using l⟩
  by_cases h : i = k
  · subst h
    have hc : w.cell? ⟨b, i, none⟩ = some cs[i] := by rw [q i]; exact Array.getElem?_eq_getElem hk
    rw [World.cell?_setCell_same _ _ _ hc]
    simp [hk]
  · rw [World.cell?_setCell_other _ _ _ _ (by intro e; injection e with _ e; omega), q i]
    rw [Array.getElem?_setIfInBounds_ne (by omega)]
end Go.Proofs.Ytoliplochipoeaa

/- A struct in a block of its own ('Box'); only one block and new memory have changed ('grownBy'). -/
set_option linter.unusedVariables false
set_option linter.unusedSimpArgs false
namespace Go.Proofs.Ytoliplochipoeaa
open Go.RowKit

/-- A struct that lies in a block of its own, and may be written. -/
def Box (w : World) (b : Nat) (cs : Array Value) : Prop := (∀ i, w.cell? ⟨b, i, none⟩ = cs[i]?) ∧ (∀ i, w.frozen? ⟨b, i, none⟩ = false) ∧ b < w.heap.size
theorem Box.new {w w1 : World} {cs : Array Value} {e : TypeId} (hb : Below (w.alloc (.cells cs e)).heap.size (w.alloc (.cells cs e)) w1) : Box w1 w.heap.size cs := box_new hb
theorem Box.alloc_ {w : World} {cs : Array Value} {e : TypeId} : Box (w.alloc (.cells cs e)) w.heap.size cs := box_new (Below.refl _ _)
theorem Box.below {w w' : World} {b : Nat} {cs : Array Value} (h : Box w b cs) (hb : Below w.heap.size w w') : Box w' b cs := box_keep h.1 h.2.1 h.2.2 hb
theorem Box.alloc' {w : World} {b : Nat} {cs : Array Value} (h : Box w b cs) (o : Obj) : Box (w.alloc o) b cs := h.below ((Below.refl _ _).alloc (Nat.le_refl _) _)
theorem Box.drew {w : World} {b : Nat} {cs : Array Value} (h : Box w b cs) : Box w.drew b cs := h
theorem Box.drewN {w : World} {b : Nat} {cs : Array Value} (h : Box w b cs) (n : Nat) : Box (w.drewN n) b cs := h
theorem Box.set {w : World} {b k : Nat} {cs cs' : Array Value} {v : Value} (h : Box w b cs) (hk : k < cs.size) (e : cs.setIfInBounds k v = cs') : Box (w.setCell ⟨b, k, none⟩ v) b cs' := by
  subst e; exact box_set v h.1 h.2.1 h.2.2 hk
theorem heap_some {w w' : World} {b : Nat} (h : w'.heap[b]? = w.heap[b]?) (hl : b < w.heap.size) : b < w'.heap.size := by
  rw [Array.getElem?_eq_getElem hl] at h
  exact (Array.getElem?_eq_some_iff.1 h).1
theorem frozen_of_block {w w' : World} {p : Addr} (h : w'.heap[p.block]? = w.heap[p.block]?) : w'.frozen? p = w.frozen? p := by
  unfold World.frozen?; rw [h]
theorem Box.grown {w w' : World} {b c : Nat} {cs : Array Value} (h : Box w b cs) (hg : w.grownBy w' (some c)) (hne : b ≠ c) : Box w' b cs := by
  have hblk := hg.block b h.2.2 (by intro e; injection e with e; exact hne e)
  refine ⟨fun i => ?_, fun i => ?_, heap_some hblk h.2.2⟩
  · rw [World.cell?_of_block (a := ⟨b, i, none⟩) hblk]; exact h.1 i
  · rw [frozen_of_block (p := ⟨b, i, none⟩) hblk]; exact h.2.1 i
theorem Rd.grown {w w' : World} {size n c : Nat} {A : Option Addr} {xs : List Value} (h : Rd w c size A n xs) (hc : c < w.heap.size) (hg : w.grownBy w' (some c)) : Rd w' c size A n xs :=
  h.keep fun p hp => World.cell?_of_block (hg.block p.block (by omega) (by intro e; injection e; omega))
theorem one_refl (w : World) (b : Nat) : w.grownBy w (some b) := World.grownBy.refl w _
theorem one_alloc {a w : World} {b : Nat} (h : a.grownBy w (some b)) (o : Obj) : a.grownBy (w.alloc o) (some b) :=
  ⟨h.os, h.tape, h.output, Nat.le_trans h.size (by simp), fun i hi hne => (Below.heap_alloc w o i (Nat.lt_of_lt_of_le hi h.size)).trans (h.block i hi hne)⟩
theorem below_drew {B : Nat} {a w : World} (h : Below B a w) : Below B a w.drew := ⟨h.os, h.tape, h.output, h.size, h.block⟩
theorem one_drew {a w : World} {row : Option Nat} (h : a.grownBy w row) : a.grownBy w.drew row := ⟨h.os, h.tape, h.output, h.size, h.block⟩
theorem one_drewN {a w : World} {row : Option Nat} (h : a.grownBy w row) (n : Nat) : a.grownBy (w.drewN n) row := ⟨h.os, h.tape, h.output, h.size, h.block⟩
theorem one_below {a w w' : World} {b : Nat} (h : a.grownBy w (some b)) (hb : Below w.heap.size w w') : a.grownBy w' (some b) :=
  ⟨hb.os.trans h.os, hb.tape.trans h.tape, hb.output.trans h.output, Nat.le_trans h.size hb.size, fun i hi hn => (hb.block i (Nat.lt_of_lt_of_le hi h.size)).trans (h.block i hi hn)⟩
theorem one_set {a w : World} {b : Nat} (h : a.grownBy w (some b)) (k : Nat) (u : Value) : a.grownBy (w.setCell ⟨b, k, none⟩ u) (some b) :=
  ⟨h.os, h.tape, h.output, by simpa [World.setCell] using h.size, fun i hi hne => (Below.heap_setCell w ⟨b, k, none⟩ u i (by rintro rfl; exact hne rfl)).trans (h.block i hi hne)⟩
/-- A write into a block that is new since 'a'. -/
theorem one_set_new {a w : World} {b g : Nat} (h : a.grownBy w (some b)) (hg : a.heap.size ≤ g) (k : Nat) (u : Value) : a.grownBy (w.setCell ⟨g, k, none⟩ u) (some b) :=
  ⟨h.os, h.tape, h.output, by simpa [World.setCell] using h.size, fun i hi hne => (Below.heap_setCell w ⟨g, k, none⟩ u i (by rintro rfl; omega)).trans (h.block i hi hne)⟩
theorem below_one {base : Nat} {w0 w w' : World} {b : Nat} (h : Below base w0 w) (hg : w.grownBy w' (some b)) (hb : base ≤ b) (hs : base ≤ w.heap.size) : Below base w0 w' :=
  h.grown hg hs (fun k hk => by injection hk with hk; omega)

end Go.Proofs.Ytoliplochipoeaa

/- Layer 5: contracts of setting.Valid and of the reference's Bauds, All, Valid. -/
set_option linter.unusedVariables false
set_option linter.unusedSimpArgs false
namespace Go.Proofs.Ytoliplochipoeaa
open Go.RowKit

abbrev bauds : List Int := [1200, 2400, 4800, 9600, 19200, 38400, 57600, 115200]
def validB (b p : Int) : Bool := decide (b ∈ bauds) && decide (0 ≤ p ∧ p ≤ 2)
abbrev i64s (xs : List Int) : List Value := xs.map (Value.int .i64)

theorem bauds_any (w : World) : Calls Try.prog 51 #[] w fun e w' =>
    ∃ A, e = .returned (.slice A 8 8) ∧ Rd w' w'.heap.size 1 A 8 (i64s bauds) ∧ Below w.heap.size w w' := by
  go_enter Try.func51, Try.ntmps51
  go_wp2
  go_ret
  exact ⟨_, rfl, Rd.lit rfl (by simp), (Below.refl _ _).alloc (Nat.le_refl _) _⟩
theorem Bauds_any (w : World) : Calls Try.prog 20 #[] w fun e w' =>
    ∃ A, e = .returned (.slice A 8 8) ∧ Rd w' w'.heap.size 1 A 8 (i64s bauds) ∧ Below w.heap.size w w' := by
  go_enter Try.func20, Try.ntmps20
  go_wp2
  go_ret
  exact ⟨_, rfl, Rd.lit rfl (by simp), (Below.refl _ _).alloc (Nat.le_refl _) _⟩

/-- The index of v among xs; -1 if it does not occur. -/
def lidx (xs : List Int) (v : Int) : Int := if v ∈ xs then (xs.idxOf v : Nat) else -1
theorem i64s_get (xs : List Int) (k : Nat) (h : k < xs.length) : (i64s xs)[k]? = some (.int .i64 xs[k]) := by simp [i64s, List.getElem?_eq_getElem h]

theorem index_any (xs : List Int) (v : Int) (A : Option Addr) (c B : Nat) (w : World) (hr : Rd w B 1 A xs.length (i64s xs)) (hm : xs.length ≤ maxLen) :
    Calls Try.prog 69 #[.slice A xs.length c, .int .i64 v] w fun e w' => e = .returned (.int .i64 (lidx xs v)) ∧ w = w' := by
  unfold maxLen at hm
  have hc : ∀ k, (hk : k < xs.length) → ∃ b off, A = some ⟨b, off, none⟩ ∧ w.cell? ⟨b, off + k, none⟩ = some (.int .i64 xs[k]) := fun k hk => by
    obtain ⟨b, off, e, _, hc⟩ := hr.2 (by omega)
    exact ⟨b, off, e, hc k _ (i64s_get xs k hk)⟩
  have HC := Lib.hid hc; clear hc hr
  go_enter Try.func69, Try.ntmps69
  go_wp2
  go_loop [8] (fun i => ∃ k : Nat, k ≤ xs.length ∧ i = .int .i64 k ∧ v ∉ xs.take k) (fun i => xs.length - (intOf i).toNat)
  case atStart => exact ⟨0, by omega, rfl, by simp⟩
  case round =>
    obtain ⟨k, hk, rfl, hrel⟩ := hrel
    have HR := Lib.hid hrel; clear hrel
    by_cases hlt : k < xs.length
    · obtain ⟨b, off, rfl, hcell⟩ := HC.out k hlt
      obtain ⟨x, hx⟩ : ∃ x, xs[k] = x := ⟨_, rfl⟩
      rw [hx] at hcell
      by_cases hv : v = x
      · have hi : lidx xs v = k := by
          have hmem : v ∈ xs := by rw [hv, ← hx]; exact List.getElem_mem hlt
          rw [lidx, if_pos hmem]
          have e := List.take_append_drop k xs
          have hd : xs.drop k = v :: xs.drop (k + 1) := by rw [hv, ← hx]; exact List.drop_eq_getElem_cons hlt
          have h2 : xs.idxOf v = k := by
            rw [← e, List.idxOf_append, if_neg HR.out, hd]
            simp; omega
          rw [h2]
        have HI := Lib.hid hi; clear hi
        have hv' : (v == x) = true := by simpa using hv
        clear hv hx
        go_wp2
        go_ret
        exact ⟨by rw [HI.out]; rfl, rfl⟩
      · have hn : v ∉ xs.take (k + 1) := by
          rw [List.take_succ_eq_append_getElem hlt, hx]
          simp only [List.mem_append, List.mem_singleton]
          rintro (h | h)
          · exact HR.out h
          · exact hv h
        have HN := Lib.hid hn; clear hn
        have hv' : (v == x) = false := by simpa using hv
        clear hv hx
        go_wp2
        exact ⟨⟨k + 1, by omega, by go_num, HN.out⟩, by simp [intOf]; omega⟩
    · obtain rfl : k = xs.length := by omega
      have hi : lidx xs v = -1 := by
        rw [lidx, if_neg]; have := HR.out; rwa [List.take_of_length_le (Nat.le_refl _)] at this
      have HI := Lib.hid hi; clear hi
      go_wp2
      go_ret
      exact ⟨by rw [HI.out]; rfl, rfl⟩

theorem contains_any (xs : List Int) (v : Int) (n : Nat) (A : Option Addr) (c B : Nat) (b : Bool) (w : World) (hr : Rd w B 1 A n (i64s xs)) (hm : n ≤ maxLen) (hb : decide (v ∈ xs) = b) :
    Calls Try.prog 50 #[.slice A n c, .int .i64 v] w fun e w' => e = .returned (.bool b) ∧ w = w' := by
  have hl : xs.length = n := by have := hr.1; simpa using this
  subst hl
  have hx := index_any xs v A c B w hr hm
  have hq : decide (0 ≤ lidx xs v) = b := by
    rw [← hb, lidx]
    by_cases h : v ∈ xs
    · rw [if_pos h]; simp [h]
    · rw [if_neg h]; simp [h]
  obtain ⟨q, hqq⟩ : ∃ q, lidx xs v = q := ⟨_, rfl⟩
  rw [hqq] at hx hq
  have HX := Lib.hid hx
  clear hx hqq hr hb
  cases b
  · have hq' : q < 0 := by simpa using hq
    clear hq
    go_enter Try.func50, Try.ntmps50
    go_wp2_with (go_at_call 69; refine HX.out.mono ?_; rintro e w' ⟨rfl, rfl⟩)
    go_ret
    exact ⟨by simp; omega, rfl⟩
  · have hq' : 0 ≤ q := by simpa using hq
    clear hq
    go_enter Try.func50, Try.ntmps50
    go_wp2_with (go_at_call 69; refine HX.out.mono ?_; rintro e w' ⟨rfl, rfl⟩)
    go_ret
    exact ⟨rfl, rfl⟩

end Go.Proofs.Ytoliplochipoeaa

/- A region that draws its order, walked in ONE order: what only reads is taken as soon as it may come up, whatever world it then meets (every later world keeps what is there); what makes memory comes up alone. -/
set_option linter.unusedVariables false
set_option linter.unusedSimpArgs false
namespace Go.Proofs.Ytoliplochipoeaa
open Go.RowKit

/-- The region ends normally. -/
def QN (Q : Exit → Act → World → Prop) : Exit → Act → World → Prop := fun e a w => e = .normal ∧ Q .normal a w
/-- What is left of a region, from the state (a, w) on, 'listed' having come up. -/
def RgN (P : Program) (ops : Array Oper) (Q : Exit → Act → World → Prop) (fuel : Nat) (listed : Array Bool) (a : Act) (w : World) : Prop :=
  wpAnyH P .any ops (QN Q) (fun w' => Below w.heap.size w w') fuel listed a w

section
variable {P : Program} {ops : Array Oper} {Q : Exit → Act → World → Prop}
theorem wpAnyH_mono {Q : Exit → Act → World → Prop} {S S' : World → Prop} (h : ∀ w, S' w → S w) : ∀ (fuel : Nat) (listed : Array Bool) (a : Act) (w : World), wpAnyH P .any ops Q S' fuel listed a w → wpAnyH P .any ops Q S fuel listed a w
  | 0, _, _, _, hh => hh
  | fuel + 1, _, _, _, hh => ⟨hh.1, fun i hi => wpOp_mono (fun a' w' h' => ⟨h _ h'.1, wpAnyH_mono h fuel _ a' w' h'.2⟩) (hh.2 i hi)⟩
theorem rg_start {id : Nat} {a : Act} {w : World} (hm : P.follows .mixedOrders = true) (h : RgN P ops Q ops.size (Array.replicate ops.size false) a w.drew) : (Code.region id ops true).wp P Q a w :=
  Code.wp_mono (fun e a w hq => by obtain ⟨rfl, h⟩ := hq; exact h) (wp_region_held hm h)
/-- Operation i only reads (or its guard says no): it is taken now. -/
theorem rg_t (d : Option Tmp) (i : Nat) {oi : Oper} {v : Value} {fuel : Nat} {listed : Array Bool} {a : Act} {w : World}
    (hc : (Region.noSelect ops && Region.free .any ops listed i && (Region.ready .any ops listed).contains i) = true) (hi : ops[i]? = some oi) (hd : oi.dst = d)
    (hy : (Region.wanted oi (yielded ops a.tmps) = true ∧ ∀ w', Below w.heap.size w w' → (∀ b o, b < w.heap.size → w'.cell? ⟨b, o, none⟩ = w.cell? ⟨b, o, none⟩) → (execOp a.eval oi).run P w' = .ok (.value v) w') ∨ (Region.wanted oi (yielded ops a.tmps) = false ∧ v = undef))
    (h : RgN P ops Q fuel (listed.setIfInBounds i true) (a.put d v) w) : RgN P ops Q (fuel + 1) listed a w := by
  subst hd
  simp only [Bool.and_eq_true] at hc
  refine wpAnyH_take hi hc.1.1 hc.1.2 hc.2 (fun c a w hq => by cases hq.1) ?_ (Below.refl _ _) h
  rcases hy with ⟨h1, h2⟩ | h2
  · exact .inl ⟨h1, fun w' hw => h2 w' hw (fun b o hb => hw.cell (p := ⟨b, o, none⟩) hb)⟩
  · exact .inr h2
/-- Operation i is the only one that may come up. -/
theorem rg_c (i : Nat) {oi : Oper} {fuel : Nat} {listed : Array Bool} {a : Act} {w : World} (hr : Region.ready .any ops listed = [i]) (hi : ops[i]? = some oi) (hw : Region.wanted oi (yielded ops a.tmps) = true)
    (h : ∀ K : Act → World → Prop, (∀ a' w', Below w.heap.size w w' → RgN P ops Q fuel (listed.setIfInBounds i true) a' w' → K a' w') → oi.wp P a w K (QN Q)) : RgN P ops Q (fuel + 1) listed a w := by
  refine wpAnyH_all hr (by simp) (fun j hj => ?_)
  obtain rfl : j = i := by simpa using hj
  unfold wpOp
  simp only [hi, hw, if_true]
  refine .inl (h _ fun a' w' hb hR => ⟨hb, ?_⟩)
  exact wpAnyH_mono (fun x hx => hb.trans (Below.mono hx hb.size)) _ _ _ _ hR
theorem rg_d {fuel : Nat} {listed : Array Bool} {a : Act} {w : World} (hr : Region.ready .any ops listed = []) (h : Q .normal a w) : RgN P ops Q fuel listed a w :=
  wpAnyH_done hr ⟨rfl, h⟩ _
end
end Go.Proofs.Ytoliplochipoeaa

/- Layer 5: contracts of setting.Valid and of the reference's All and Valid. -/
set_option linter.unusedVariables false
set_option linter.unusedSimpArgs false
namespace Go.Proofs.Ytoliplochipoeaa
open Go.RowKit

set_option maxHeartbeats 1000000 in
theorem valid_any (b p : Int) (r : Bool) (hr : validB b p = r) (w : World) : Calls Try.prog 29 #[.agg #[.int .i64 b, .int .i64 p]] w fun e w' => e = .returned (.bool r) ∧ Below w.heap.size w w' := by
  obtain ⟨y, hy⟩ : ∃ y, decide (b ∈ bauds) = y := ⟨_, rfl⟩
  have hr' : (y && decide (0 ≤ p ∧ p ≤ 2)) = r := by rw [← hr, validB, hy]
  have HY := Lib.hid hy
  clear hr hy
  cases y
  · have e : r = false := by simpa using hr'.symm
    subst e
    clear hr'
    go_enter Try.func29, Try.ntmps29
    go_wp2
    refine rg_start (by kernel_rfl) ?_
    refine rg_t (v := ?_) (some 4) 1 (by kernel_rfl) rfl rfl (.inl ⟨by rfl, fun w' hw q => ?_⟩) ?_
    rotate_left
    · go_simp <;> with_reducible rfl
    try simp only [Act.put, List.setIfInBounds_toArray, List.set_cons_zero, List.set_cons_succ]
    refine rg_t (v := ?_) (some 5) 2 (by kernel_rfl) rfl rfl (.inl ⟨by rfl, fun w' hw q => ?_⟩) ?_
    rotate_left
    · go_simp <;> with_reducible rfl
    try simp only [Act.put, List.setIfInBounds_toArray, List.set_cons_zero, List.set_cons_succ]
    refine rg_c 0 (by kernel_rfl) rfl (by rfl) (fun K hK => ?_)
    go_simp
    refine (bauds_any _).mono ?_
    rintro e w1 ⟨A1, rfl, hR1, hb1⟩
    have hb2 := ((Below.refl _ (w.alloc (.cells #[.int .i64 b, .int .i64 p] 24))).drew).trans hb1
    obtain ⟨q1, _, l1⟩ := box_new hb2
    have hbw := ext_alloc' (Below.refl _ w) (by simpa using hb2)
    clear hb2
    refine hK _ _ hb1 ?_
    clear hb1
    clear hK K
    try simp only [Act.put, List.setIfInBounds_toArray, List.set_cons_zero, List.set_cons_succ]
    refine rg_c 3 (by kernel_rfl) rfl (by rfl) (fun K hK => ?_)
    go_simp
    refine (contains_any bauds b 8 _ 8 _ false _ hR1 (by simp [maxLen]) HY.out).mono ?_
    rintro e w2 ⟨rfl, rfl⟩
    refine hK _ _ (Below.refl _ _) ?_
    clear hK K
    try simp only [Act.put, List.setIfInBounds_toArray, List.set_cons_zero, List.set_cons_succ]
    refine rg_t (v := ?_) (some 7) 4 (by kernel_rfl) rfl rfl (.inl ⟨by rfl, fun w' hw q => ?_⟩) ?_
    rotate_left
    · go_simp <;> with_reducible rfl
    try simp only [Act.put, List.setIfInBounds_toArray, List.set_cons_zero, List.set_cons_succ]
    refine rg_t (some 8) 5 (by kernel_rfl) rfl rfl (.inr ⟨by rfl, rfl⟩) ?_
    try simp only [Act.put, List.setIfInBounds_toArray, List.set_cons_zero, List.set_cons_succ]
    refine rg_t (some 9) 6 (by kernel_rfl) rfl rfl (.inr ⟨by rfl, rfl⟩) ?_
    try simp only [Act.put, List.setIfInBounds_toArray, List.set_cons_zero, List.set_cons_succ]
    refine rg_t (some 10) 7 (by kernel_rfl) rfl rfl (.inr ⟨by rfl, rfl⟩) ?_
    try simp only [Act.put, List.setIfInBounds_toArray, List.set_cons_zero, List.set_cons_succ]
    refine rg_t (v := ?_) (some 11) 8 (by kernel_rfl) rfl rfl (.inl ⟨by rfl, fun w' hw q => ?_⟩) ?_
    rotate_left
    · go_simp <;> with_reducible rfl
    try simp only [Act.put, List.setIfInBounds_toArray, List.set_cons_zero, List.set_cons_succ]
    refine rg_t (v := ?_) (some 12) 9 (by kernel_rfl) rfl rfl (.inl ⟨by rfl, fun w' hw q => ?_⟩) ?_
    rotate_left
    · go_simp <;> with_reducible rfl
    try simp only [Act.put, List.setIfInBounds_toArray, List.set_cons_zero, List.set_cons_succ]
    refine rg_t (some 13) 10 (by kernel_rfl) rfl rfl (.inr ⟨by rfl, rfl⟩) ?_
    try simp only [Act.put, List.setIfInBounds_toArray, List.set_cons_zero, List.set_cons_succ]
    refine rg_t (some 14) 11 (by kernel_rfl) rfl rfl (.inr ⟨by rfl, rfl⟩) ?_
    try simp only [Act.put, List.setIfInBounds_toArray, List.set_cons_zero, List.set_cons_succ]
    refine rg_t (some 15) 12 (by kernel_rfl) rfl rfl (.inr ⟨by rfl, rfl⟩) ?_
    try simp only [Act.put, List.setIfInBounds_toArray, List.set_cons_zero, List.set_cons_succ]
    refine rg_t (v := ?_) (some 16) 13 (by kernel_rfl) rfl rfl (.inl ⟨by rfl, fun w' hw q => ?_⟩) ?_
    rotate_left
    · go_simp <;> with_reducible rfl
    try simp only [Act.put, List.setIfInBounds_toArray, List.set_cons_zero, List.set_cons_succ]
    refine rg_t (v := ?_) (some 2) 14 (by kernel_rfl) rfl rfl (.inl ⟨by rfl, fun w' hw q => ?_⟩) ?_
    rotate_left
    · go_simp <;> with_reducible rfl
    try simp only [Act.put, List.setIfInBounds_toArray, List.set_cons_zero, List.set_cons_succ]
    refine rg_d (by kernel_rfl) ?_
    go_wp2
    go_ret
    exact ⟨rfl, by assumption⟩
  · cases r
    · rcases (show p < 0 ∨ (0 ≤ p ∧ 2 < p) by simp at hr'; omega) with h | ⟨h0, h⟩
      · have hg : decide (0 ≤ p) = false := by simp; omega
        clear hr'
        go_enter Try.func29, Try.ntmps29
        go_wp2
        refine rg_start (by kernel_rfl) ?_
        refine rg_t (v := ?_) (some 4) 1 (by kernel_rfl) rfl rfl (.inl ⟨by rfl, fun w' hw q => ?_⟩) ?_
        rotate_left
        · go_simp <;> with_reducible rfl
        try simp only [Act.put, List.setIfInBounds_toArray, List.set_cons_zero, List.set_cons_succ]
        refine rg_t (v := ?_) (some 5) 2 (by kernel_rfl) rfl rfl (.inl ⟨by rfl, fun w' hw q => ?_⟩) ?_
        rotate_left
        · go_simp <;> with_reducible rfl
        try simp only [Act.put, List.setIfInBounds_toArray, List.set_cons_zero, List.set_cons_succ]
        refine rg_c 0 (by kernel_rfl) rfl (by rfl) (fun K hK => ?_)
        go_simp
        refine (bauds_any _).mono ?_
        rintro e w1 ⟨A1, rfl, hR1, hb1⟩
        have hb2 := ((Below.refl _ (w.alloc (.cells #[.int .i64 b, .int .i64 p] 24))).drew).trans hb1
        obtain ⟨q1, _, l1⟩ := box_new hb2
        have hbw := ext_alloc' (Below.refl _ w) (by simpa using hb2)
        clear hb2
        refine hK _ _ hb1 ?_
        clear hb1
        clear hK K
        try simp only [Act.put, List.setIfInBounds_toArray, List.set_cons_zero, List.set_cons_succ]
        refine rg_c 3 (by kernel_rfl) rfl (by rfl) (fun K hK => ?_)
        go_simp
        refine (contains_any bauds b 8 _ 8 _ true _ hR1 (by simp [maxLen]) HY.out).mono ?_
        rintro e w2 ⟨rfl, rfl⟩
        refine hK _ _ (Below.refl _ _) ?_
        clear hK K
        try simp only [Act.put, List.setIfInBounds_toArray, List.set_cons_zero, List.set_cons_succ]
        refine rg_t (v := ?_) (some 7) 4 (by kernel_rfl) rfl rfl (.inl ⟨by rfl, fun w' hw q => ?_⟩) ?_
        rotate_left
        · go_simp <;> with_reducible rfl
        try simp only [Act.put, List.setIfInBounds_toArray, List.set_cons_zero, List.set_cons_succ]
        refine rg_t (v := ?_) (some 8) 5 (by kernel_rfl) rfl rfl (.inl ⟨by rfl, fun w' hw q => ?_⟩) ?_
        rotate_left
        · go_simp <;> with_reducible rfl
        try simp only [Act.put, List.setIfInBounds_toArray, List.set_cons_zero, List.set_cons_succ]
        refine rg_t (v := ?_) (some 9) 6 (by kernel_rfl) rfl rfl (.inl ⟨by rfl, fun w' hw q => ?_⟩) ?_
        rotate_left
        · go_simp <;> with_reducible rfl
        try simp only [Act.put, List.setIfInBounds_toArray, List.set_cons_zero, List.set_cons_succ]
        refine rg_t (v := ?_) (some 10) 7 (by kernel_rfl) rfl rfl (.inl ⟨by rfl, fun w' hw q => ?_⟩) ?_
        rotate_left
        · go_simp <;> with_reducible rfl
        try simp only [Act.put, List.setIfInBounds_toArray, List.set_cons_zero, List.set_cons_succ]
        refine rg_t (v := ?_) (some 11) 8 (by kernel_rfl) rfl rfl (.inl ⟨by rfl, fun w' hw q => ?_⟩) ?_
        rotate_left
        · go_simp <;> with_reducible rfl
        try simp only [Act.put, List.setIfInBounds_toArray, List.set_cons_zero, List.set_cons_succ]
        refine rg_t (v := ?_) (some 12) 9 (by kernel_rfl) rfl rfl (.inl ⟨by rfl, fun w' hw q => ?_⟩) ?_
        rotate_left
        · go_simp <;> with_reducible rfl
        try simp only [Act.put, List.setIfInBounds_toArray, List.set_cons_zero, List.set_cons_succ]
        refine rg_t (some 13) 10 (by kernel_rfl) rfl rfl (.inr ⟨by rfl, rfl⟩) ?_
        try simp only [Act.put, List.setIfInBounds_toArray, List.set_cons_zero, List.set_cons_succ]
        refine rg_t (some 14) 11 (by kernel_rfl) rfl rfl (.inr ⟨by rfl, rfl⟩) ?_
        try simp only [Act.put, List.setIfInBounds_toArray, List.set_cons_zero, List.set_cons_succ]
        refine rg_t (some 15) 12 (by kernel_rfl) rfl rfl (.inr ⟨by rfl, rfl⟩) ?_
        try simp only [Act.put, List.setIfInBounds_toArray, List.set_cons_zero, List.set_cons_succ]
        refine rg_t (v := ?_) (some 16) 13 (by kernel_rfl) rfl rfl (.inl ⟨by rfl, fun w' hw q => ?_⟩) ?_
        rotate_left
        · go_simp <;> with_reducible rfl
        try simp only [Act.put, List.setIfInBounds_toArray, List.set_cons_zero, List.set_cons_succ]
        refine rg_t (v := ?_) (some 2) 14 (by kernel_rfl) rfl rfl (.inl ⟨by rfl, fun w' hw q => ?_⟩) ?_
        rotate_left
        · go_simp <;> with_reducible rfl
        try simp only [Act.put, List.setIfInBounds_toArray, List.set_cons_zero, List.set_cons_succ]
        refine rg_d (by kernel_rfl) ?_
        go_wp2
        go_ret
        exact ⟨rfl, by assumption⟩
      · have hg : decide (p ≤ 2) = false := by simp; omega
        clear hr'
        go_enter Try.func29, Try.ntmps29
        go_wp2
        refine rg_start (by kernel_rfl) ?_
        refine rg_t (v := ?_) (some 4) 1 (by kernel_rfl) rfl rfl (.inl ⟨by rfl, fun w' hw q => ?_⟩) ?_
        rotate_left
        · go_simp <;> with_reducible rfl
        try simp only [Act.put, List.setIfInBounds_toArray, List.set_cons_zero, List.set_cons_succ]
        refine rg_t (v := ?_) (some 5) 2 (by kernel_rfl) rfl rfl (.inl ⟨by rfl, fun w' hw q => ?_⟩) ?_
        rotate_left
        · go_simp <;> with_reducible rfl
        try simp only [Act.put, List.setIfInBounds_toArray, List.set_cons_zero, List.set_cons_succ]
        refine rg_c 0 (by kernel_rfl) rfl (by rfl) (fun K hK => ?_)
        go_simp
        refine (bauds_any _).mono ?_
        rintro e w1 ⟨A1, rfl, hR1, hb1⟩
        have hb2 := ((Below.refl _ (w.alloc (.cells #[.int .i64 b, .int .i64 p] 24))).drew).trans hb1
        obtain ⟨q1, _, l1⟩ := box_new hb2
        have hbw := ext_alloc' (Below.refl _ w) (by simpa using hb2)
        clear hb2
        refine hK _ _ hb1 ?_
        clear hb1
        clear hK K
        try simp only [Act.put, List.setIfInBounds_toArray, List.set_cons_zero, List.set_cons_succ]
        refine rg_c 3 (by kernel_rfl) rfl (by rfl) (fun K hK => ?_)
        go_simp
        refine (contains_any bauds b 8 _ 8 _ true _ hR1 (by simp [maxLen]) HY.out).mono ?_
        rintro e w2 ⟨rfl, rfl⟩
        refine hK _ _ (Below.refl _ _) ?_
        clear hK K
        try simp only [Act.put, List.setIfInBounds_toArray, List.set_cons_zero, List.set_cons_succ]
        refine rg_t (v := ?_) (some 7) 4 (by kernel_rfl) rfl rfl (.inl ⟨by rfl, fun w' hw q => ?_⟩) ?_
        rotate_left
        · go_simp <;> with_reducible rfl
        try simp only [Act.put, List.setIfInBounds_toArray, List.set_cons_zero, List.set_cons_succ]
        refine rg_t (v := ?_) (some 8) 5 (by kernel_rfl) rfl rfl (.inl ⟨by rfl, fun w' hw q => ?_⟩) ?_
        rotate_left
        · go_simp <;> with_reducible rfl
        try simp only [Act.put, List.setIfInBounds_toArray, List.set_cons_zero, List.set_cons_succ]
        refine rg_t (v := ?_) (some 9) 6 (by kernel_rfl) rfl rfl (.inl ⟨by rfl, fun w' hw q => ?_⟩) ?_
        rotate_left
        · go_simp <;> with_reducible rfl
        try simp only [Act.put, List.setIfInBounds_toArray, List.set_cons_zero, List.set_cons_succ]
        refine rg_t (v := ?_) (some 10) 7 (by kernel_rfl) rfl rfl (.inl ⟨by rfl, fun w' hw q => ?_⟩) ?_
        rotate_left
        · go_simp <;> with_reducible rfl
        try simp only [Act.put, List.setIfInBounds_toArray, List.set_cons_zero, List.set_cons_succ]
        refine rg_t (v := ?_) (some 11) 8 (by kernel_rfl) rfl rfl (.inl ⟨by rfl, fun w' hw q => ?_⟩) ?_
        rotate_left
        · go_simp <;> with_reducible rfl
        try simp only [Act.put, List.setIfInBounds_toArray, List.set_cons_zero, List.set_cons_succ]
        refine rg_t (v := ?_) (some 12) 9 (by kernel_rfl) rfl rfl (.inl ⟨by rfl, fun w' hw q => ?_⟩) ?_
        rotate_left
        · go_simp <;> with_reducible rfl
        try simp only [Act.put, List.setIfInBounds_toArray, List.set_cons_zero, List.set_cons_succ]
        refine rg_t (v := ?_) (some 13) 10 (by kernel_rfl) rfl rfl (.inl ⟨by rfl, fun w' hw q => ?_⟩) ?_
        rotate_left
        · go_simp <;> with_reducible rfl
        try simp only [Act.put, List.setIfInBounds_toArray, List.set_cons_zero, List.set_cons_succ]
        refine rg_t (v := ?_) (some 14) 11 (by kernel_rfl) rfl rfl (.inl ⟨by rfl, fun w' hw q => ?_⟩) ?_
        rotate_left
        · go_simp <;> with_reducible rfl
        try simp only [Act.put, List.setIfInBounds_toArray, List.set_cons_zero, List.set_cons_succ]
        refine rg_t (v := ?_) (some 15) 12 (by kernel_rfl) rfl rfl (.inl ⟨by rfl, fun w' hw q => ?_⟩) ?_
        rotate_left
        · go_simp <;> with_reducible rfl
        try simp only [Act.put, List.setIfInBounds_toArray, List.set_cons_zero, List.set_cons_succ]
        refine rg_t (v := ?_) (some 16) 13 (by kernel_rfl) rfl rfl (.inl ⟨by rfl, fun w' hw q => ?_⟩) ?_
        rotate_left
        · go_simp <;> with_reducible rfl
        try simp only [Act.put, List.setIfInBounds_toArray, List.set_cons_zero, List.set_cons_succ]
        refine rg_t (v := ?_) (some 2) 14 (by kernel_rfl) rfl rfl (.inl ⟨by rfl, fun w' hw q => ?_⟩) ?_
        rotate_left
        · go_simp <;> with_reducible rfl
        try simp only [Act.put, List.setIfInBounds_toArray, List.set_cons_zero, List.set_cons_succ]
        refine rg_d (by kernel_rfl) ?_
        go_wp2
        go_ret
        exact ⟨rfl, by assumption⟩
    · have h1 : 0 ≤ p ∧ p ≤ 2 := by simpa using hr'
      obtain ⟨h1, h2⟩ := h1
      clear hr'
      go_enter Try.func29, Try.ntmps29
      go_wp2
      refine rg_start (by kernel_rfl) ?_
      refine rg_t (v := ?_) (some 4) 1 (by kernel_rfl) rfl rfl (.inl ⟨by rfl, fun w' hw q => ?_⟩) ?_
      rotate_left
      · go_simp <;> with_reducible rfl
      try simp only [Act.put, List.setIfInBounds_toArray, List.set_cons_zero, List.set_cons_succ]
      refine rg_t (v := ?_) (some 5) 2 (by kernel_rfl) rfl rfl (.inl ⟨by rfl, fun w' hw q => ?_⟩) ?_
      rotate_left
      · go_simp <;> with_reducible rfl
      try simp only [Act.put, List.setIfInBounds_toArray, List.set_cons_zero, List.set_cons_succ]
      refine rg_c 0 (by kernel_rfl) rfl (by rfl) (fun K hK => ?_)
      go_simp
      refine (bauds_any _).mono ?_
      rintro e w1 ⟨A1, rfl, hR1, hb1⟩
      have hb2 := ((Below.refl _ (w.alloc (.cells #[.int .i64 b, .int .i64 p] 24))).drew).trans hb1
      obtain ⟨q1, _, l1⟩ := box_new hb2
      have hbw := ext_alloc' (Below.refl _ w) (by simpa using hb2)
      clear hb2
      refine hK _ _ hb1 ?_
      clear hb1
      clear hK K
      try simp only [Act.put, List.setIfInBounds_toArray, List.set_cons_zero, List.set_cons_succ]
      refine rg_c 3 (by kernel_rfl) rfl (by rfl) (fun K hK => ?_)
      go_simp
      refine (contains_any bauds b 8 _ 8 _ true _ hR1 (by simp [maxLen]) HY.out).mono ?_
      rintro e w2 ⟨rfl, rfl⟩
      refine hK _ _ (Below.refl _ _) ?_
      clear hK K
      try simp only [Act.put, List.setIfInBounds_toArray, List.set_cons_zero, List.set_cons_succ]
      refine rg_t (v := ?_) (some 7) 4 (by kernel_rfl) rfl rfl (.inl ⟨by rfl, fun w' hw q => ?_⟩) ?_
      rotate_left
      · go_simp <;> with_reducible rfl
      try simp only [Act.put, List.setIfInBounds_toArray, List.set_cons_zero, List.set_cons_succ]
      refine rg_t (v := ?_) (some 8) 5 (by kernel_rfl) rfl rfl (.inl ⟨by rfl, fun w' hw q => ?_⟩) ?_
      rotate_left
      · go_simp <;> with_reducible rfl
      try simp only [Act.put, List.setIfInBounds_toArray, List.set_cons_zero, List.set_cons_succ]
      refine rg_t (v := ?_) (some 9) 6 (by kernel_rfl) rfl rfl (.inl ⟨by rfl, fun w' hw q => ?_⟩) ?_
      rotate_left
      · go_simp <;> with_reducible rfl
      try simp only [Act.put, List.setIfInBounds_toArray, List.set_cons_zero, List.set_cons_succ]
      refine rg_t (v := ?_) (some 10) 7 (by kernel_rfl) rfl rfl (.inl ⟨by rfl, fun w' hw q => ?_⟩) ?_
      rotate_left
      · go_simp <;> with_reducible rfl
      try simp only [Act.put, List.setIfInBounds_toArray, List.set_cons_zero, List.set_cons_succ]
      refine rg_t (v := ?_) (some 11) 8 (by kernel_rfl) rfl rfl (.inl ⟨by rfl, fun w' hw q => ?_⟩) ?_
      rotate_left
      · go_simp <;> with_reducible rfl
      try simp only [Act.put, List.setIfInBounds_toArray, List.set_cons_zero, List.set_cons_succ]
      refine rg_t (v := ?_) (some 12) 9 (by kernel_rfl) rfl rfl (.inl ⟨by rfl, fun w' hw q => ?_⟩) ?_
      rotate_left
      · go_simp <;> with_reducible rfl
      try simp only [Act.put, List.setIfInBounds_toArray, List.set_cons_zero, List.set_cons_succ]
      refine rg_t (v := ?_) (some 13) 10 (by kernel_rfl) rfl rfl (.inl ⟨by rfl, fun w' hw q => ?_⟩) ?_
      rotate_left
      · go_simp <;> with_reducible rfl
      try simp only [Act.put, List.setIfInBounds_toArray, List.set_cons_zero, List.set_cons_succ]
      refine rg_t (v := ?_) (some 14) 11 (by kernel_rfl) rfl rfl (.inl ⟨by rfl, fun w' hw q => ?_⟩) ?_
      rotate_left
      · go_simp <;> with_reducible rfl
      try simp only [Act.put, List.setIfInBounds_toArray, List.set_cons_zero, List.set_cons_succ]
      refine rg_t (v := ?_) (some 15) 12 (by kernel_rfl) rfl rfl (.inl ⟨by rfl, fun w' hw q => ?_⟩) ?_
      rotate_left
      · go_simp <;> with_reducible rfl
      try simp only [Act.put, List.setIfInBounds_toArray, List.set_cons_zero, List.set_cons_succ]
      refine rg_t (v := ?_) (some 16) 13 (by kernel_rfl) rfl rfl (.inl ⟨by rfl, fun w' hw q => ?_⟩) ?_
      rotate_left
      · go_simp <;> with_reducible rfl
      try simp only [Act.put, List.setIfInBounds_toArray, List.set_cons_zero, List.set_cons_succ]
      refine rg_t (v := ?_) (some 2) 14 (by kernel_rfl) rfl rfl (.inl ⟨by rfl, fun w' hw q => ?_⟩) ?_
      rotate_left
      · go_simp <;> with_reducible rfl
      try simp only [Act.put, List.setIfInBounds_toArray, List.set_cons_zero, List.set_cons_succ]
      refine rg_d (by kernel_rfl) ?_
      go_wp2
      go_ret
      exact ⟨rfl, by assumption⟩

end Go.Proofs.Ytoliplochipoeaa

/- Layer 5: contracts of the reference's All and Valid. -/
set_option linter.unusedVariables false
set_option linter.unusedSimpArgs false
namespace Go.Proofs.Ytoliplochipoeaa
open Go.RowKit

abbrev stRow (s : Int × Int) : List Value := [.int .i64 s.1, .int .i64 s.2]
abbrev stCells (l : List (Int × Int)) : List Value := (l.map stRow).flatten
def allL : List (Int × Int) := bauds.flatMap fun b => [(b, 0), (b, 1), (b, 2)]
theorem all_length : allL.length = 24 := by decide
theorem all_get (i p : Nat) (hi : i < 8) (hp : p < 3) : allL[3 * i + p]? = some (bauds.getD i 0, (p : Int)) := by
  have : ∀ i : Fin 8, ∀ p : Fin 3, allL[3 * (i : Nat) + (p : Nat)]? = some (bauds.getD (i : Nat) 0, ((p : Nat) : Int)) := by decide
  exact this ⟨i, hi⟩ ⟨p, hp⟩
theorem all_take (i p : Nat) (hi : i < 8) (hp : p < 3) : stCells (allL.take (3 * i + p + 1)) = stCells (allL.take (3 * i + p)) ++ [.int .i64 (bauds.getD i 0), .int .i64 p] := by
  have h := all_get i p hi hp
  have hl : 3 * i + p < allL.length := by rw [all_length]; omega
  rw [List.take_succ_eq_append_getElem hl]
  have e : allL[3 * i + p] = (bauds.getD i 0, (p : Int)) := by rw [List.getElem?_eq_getElem hl] at h; exact Option.some.inj h
  rw [e]
  simp [stCells, stRow]
theorem setInfo : (Try.prog.info? 24).map (fun i => (i.zero, i.size, i.bytes)) = some (some (.agg #[.int .i64 0, .int .i64 0]), 2, 16) := by kernel_rfl

set_option maxHeartbeats 1000000 in
theorem all_any (w : World) : Calls Try.prog 5 #[] w fun e w' =>
    ∃ A c, e = .returned (.slice A 24 c) ∧ w'.ownsRow w.heap.size 24 2 (.slice A 24 c) 24 (stCells allL) ∧ Below w.heap.size w w' := by
  go_enter Try.func5, Try.ntmps5
  go_wp2_with fail
  refine (Bauds_any _).mono ?_
  rintro e w1 ⟨A1, rfl, hR1, hb1⟩
  go_wp2
  go_loopw [1, 3, 4] (fun v i u wr => ∃ k : Nat, k ≤ 8 ∧ i = .int .i64 k ∧ wr.ownsRow w1.heap.size 24 2 v (3 * k) (stCells (allL.take (3 * k))) ∧ Below w1.heap.size w1 wr) (fun _ i _ _ => 8 - (intOf i).toNat)
  case atStart => exact ⟨0, by omega, rfl, World.ownsRow_nil _ _ _ _, Below.refl _ _⟩
  case round =>
    obtain ⟨i, hi, rfl, hown, hbel⟩ := hrel
    by_cases hlt : i < 8
    · obtain ⟨wo, rfl⟩ : ∃ wo : World, wo = wr := ⟨_, rfl⟩
      have hlt' : (i : Int) < 8 := by omega
      go_wp2
      go_loopw [1, 4] (fun v u wr => ∃ p : Nat, p ≤ 3 ∧ u = .int .i64 p ∧ wr.ownsRow w1.heap.size 24 2 v (3 * i + p) (stCells (allL.take (3 * i + p))) ∧ Below w1.heap.size w1 wr) (fun _ u _ => 3 - (intOf u).toNat)
      case atStart => exact ⟨0, by omega, rfl, hown, hbel⟩
      case round =>
        obtain ⟨p, hp, rfl, hown2, hbel2⟩ := hrel
        by_cases hlp : p < 3
        · have hlp' : (p : Int) < 3 := by omega
          obtain ⟨b, off, e, _, hc⟩ := (hR1.below hbel2 (Nat.le_refl _)).2 (by omega)
          have hcell := hc i (.int .i64 (bauds.getD i 0)) (by rw [i64s_get bauds i hlt]; simp [List.getD, List.getElem?_eq_getElem (show i < bauds.length from hlt)])
          obtain ⟨z, hz⟩ : ∃ z, bauds.getD i 0 = z := ⟨_, rfl⟩
          have hat := all_take i p hlt hlp
          rw [hz] at hcell hat
          have HAT := Lib.hid hat
          clear hat hc hz
          subst e
          have hsz := hbel2.size
          go_wp2_with (at_builtin; refine wpList_app (.tmp 16) (.tmp 23) 25 w1.heap.size 24 _ 2 16 _ (3 * i + p) 1 1 _ Try.underlying25 setInfo rfl (by decide) rfl rfl rfl rfl hown2 rfl (by simp [Value.oneCell']) (by omega) (by omega) hsz ?_; intro v1 w2 hown3 hg3 hb3)
          refine ⟨⟨p + 1, by omega, by go_num, ?_, hbel2.trans hb3⟩, by simp [intOf]; omega⟩
          rw [show 3 * i + (p + 1) = 3 * i + p + 1 from rfl, HAT.out]
          exact hown3
        · obtain rfl : p = 3 := by omega
          go_wp2
          refine ⟨⟨i + 1, by omega, by go_num, ?_, hbel2⟩, by simp [intOf]; omega⟩
          rw [show 3 * (i + 1) = 3 * i + 3 by omega]
          exact hown2
    · obtain rfl : i = 8 := by omega
      go_wp2
      go_ret
      rw [show 3 * 8 = 24 from rfl, List.take_of_length_le (by rw [all_length]; exact Nat.le_refl _)] at hown
      obtain ⟨A, c, rfl, _, _⟩ := own_form hown
      exact ⟨A, c, rfl, own_mono hown hb1.size, ext_trans hb1 hbel⟩

end Go.Proofs.Ytoliplochipoeaa

/- Layer 6: contracts of the timing functions, the program's and the reference's. -/
set_option linter.unusedVariables false
set_option linter.unusedSimpArgs false
namespace Go.Proofs.Ytoliplochipoeaa
open Go.RowKit

def upZ (a b : Int) : Int := (a + b - 1) / b
def charZ (b p : Int) : Int := if validB b p then upZ 11000000 b else 0
def t15Z (b p : Int) : Int := if validB b p then (if 19200 < b then 750 else upZ 16500000 b) else 0
def t35Z (b p : Int) : Int := if validB b p then (if 19200 < b then 1750 else upZ 38500000 b) else 0
def frameZ (b p n : Int) : Int := if 0 ≤ n ∧ n ≤ 256 then n * charZ b p else 0
theorem baud_pos {b p : Int} (h : validB b p = true) : 1200 ≤ b ∧ b ≤ 115200 := by
  simp only [validB, Bool.and_eq_true, decide_eq_true_eq] at h
  have := h.1
  simp only [bauds, List.mem_cons, List.not_mem_nil, or_false] at this
  omega
theorem char_bd (b p : Int) : 0 ≤ charZ b p ∧ charZ b p ≤ 9167 := by
  unfold charZ
  split
  · rename_i h
    simp only [validB, Bool.and_eq_true, decide_eq_true_eq] at h
    have := h.1
    simp only [bauds, List.mem_cons, List.not_mem_nil, or_false] at this
    rcases this with rfl | rfl | rfl | rfl | rfl | rfl | rfl | rfl <;> decide
  · omega

theorem up_any (a b : Int) (ha : 0 ≤ a) (ha2 : a ≤ 100000000) (hb : 1 ≤ b) (hb2 : b ≤ 1000000) (w : World) : Calls Try.prog 30 #[.int .i64 a, .int .i64 b] w fun e w' => e = .returned (.int .i64 (upZ a b)) ∧ w = w' := by
  have hne : (b == 0) = false := by simp; omega
  have hn : 0 ≤ a + b - 1 := by omega
  go_enter Try.func30, Try.ntmps30
  go_wp2
  go_ret
  exact ⟨rfl, rfl⟩

theorem char_any (b p : Int) (w : World) : Calls Try.prog 12 #[.agg #[.int .i64 b, .int .i64 p]] w fun e w' => e = .returned (.int .i64 (charZ b p)) ∧ Below w.heap.size w w' := by
  obtain ⟨r, hr⟩ : ∃ r, validB b p = r := ⟨_, rfl⟩
  have HV := Lib.hid (fun w => valid_any b p r hr w)
  cases r
  · have hz : charZ b p = 0 := by rw [charZ, if_neg (by rw [hr]; decide)]
    have HZ := Lib.hid hz; clear hz hr
    go_enter Try.func12, Try.ntmps12
    go_wp2_with fail
    refine (HV.out _).mono ?_
    rintro e w1 ⟨rfl, hb1⟩
    go_wp2
    go_ret
    exact ⟨by rw [HZ.out]; rfl, ext_alloc' (Below.refl _ w) (by simpa using hb1)⟩
  · have hz : charZ b p = upZ 11000000 b := by rw [charZ, if_pos hr]
    obtain ⟨h1, h2⟩ := baud_pos hr
    have HZ := Lib.hid hz; clear hz hr
    go_enter Try.func12, Try.ntmps12
    go_wp2_with fail
    refine (HV.out _).mono ?_
    rintro e w1 ⟨rfl, hb1⟩
    have q1 := (box_new hb1).1
    go_wp2_with fail
    refine (up_any _ _ (by omega) (by omega) (by omega) (by omega) _).mono ?_
    rintro e w2 ⟨rfl, rfl⟩
    go_wp2
    go_ret
    exact ⟨by rw [HZ.out]; rfl, ext_alloc' (Below.refl _ w) (by simpa using hb1)⟩

theorem t15_any (b p : Int) (w : World) : Calls Try.prog 52 #[.agg #[.int .i64 b, .int .i64 p]] w fun e w' => e = .returned (.int .i64 (t15Z b p)) ∧ Below w.heap.size w w' := by
  obtain ⟨r, hr⟩ : ∃ r, validB b p = r := ⟨_, rfl⟩
  have HV := Lib.hid (fun w => valid_any b p r hr w)
  cases r
  · have hz : t15Z b p = 0 := by rw [t15Z, if_neg (by rw [hr]; decide)]
    have HZ := Lib.hid hz; clear hz hr
    go_enter Try.func52, Try.ntmps52
    go_wp2_with fail
    refine (HV.out _).mono ?_
    rintro e w1 ⟨rfl, hb1⟩
    have q1 := (box_new hb1).1
    go_wp2
    go_ret
    exact ⟨by rw [HZ.out]; rfl, ext_alloc' (Below.refl _ w) (by simpa using hb1)⟩
  · by_cases hf : 19200 < b
    · have hz : t15Z b p = 750 := by rw [t15Z, if_pos hr, if_pos hf]
      have HZ := Lib.hid hz; clear hz hr
      go_enter Try.func52, Try.ntmps52
      go_wp2_with fail
      refine (HV.out _).mono ?_
      rintro e w1 ⟨rfl, hb1⟩
      have q1 := (box_new hb1).1
      go_wp2
      go_ret
      exact ⟨by rw [HZ.out]; rfl, ext_alloc' (Below.refl _ w) (by simpa using hb1)⟩
    · have hz : t15Z b p = upZ 16500000 b := by rw [t15Z, if_pos hr, if_neg hf]
      obtain ⟨h1, h2⟩ := baud_pos hr
      have HZ := Lib.hid hz; clear hz hr
      go_enter Try.func52, Try.ntmps52
      go_wp2_with fail
      refine (HV.out _).mono ?_
      rintro e w1 ⟨rfl, hb1⟩
      have q1 := (box_new hb1).1
      go_wp2_with fail
      refine (up_any _ _ (by omega) (by omega) (by omega) (by omega) _).mono ?_
      rintro e w2 ⟨rfl, rfl⟩
      go_wp2
      go_ret
      exact ⟨by rw [HZ.out]; rfl, ext_alloc' (Below.refl _ w) (by simpa using hb1)⟩

theorem t35_any (b p : Int) (w : World) : Calls Try.prog 53 #[.agg #[.int .i64 b, .int .i64 p]] w fun e w' => e = .returned (.int .i64 (t35Z b p)) ∧ Below w.heap.size w w' := by
  obtain ⟨r, hr⟩ : ∃ r, validB b p = r := ⟨_, rfl⟩
  have HV := Lib.hid (fun w => valid_any b p r hr w)
  cases r
  · have hz : t35Z b p = 0 := by rw [t35Z, if_neg (by rw [hr]; decide)]
    have HZ := Lib.hid hz; clear hz hr
    go_enter Try.func53, Try.ntmps53
    go_wp2_with fail
    refine (HV.out _).mono ?_
    rintro e w1 ⟨rfl, hb1⟩
    have q1 := (box_new hb1).1
    go_wp2
    go_ret
    exact ⟨by rw [HZ.out]; rfl, ext_alloc' (Below.refl _ w) (by simpa using hb1)⟩
  · by_cases hf : 19200 < b
    · have hz : t35Z b p = 1750 := by rw [t35Z, if_pos hr, if_pos hf]
      have HZ := Lib.hid hz; clear hz hr
      go_enter Try.func53, Try.ntmps53
      go_wp2_with fail
      refine (HV.out _).mono ?_
      rintro e w1 ⟨rfl, hb1⟩
      have q1 := (box_new hb1).1
      go_wp2
      go_ret
      exact ⟨by rw [HZ.out]; rfl, ext_alloc' (Below.refl _ w) (by simpa using hb1)⟩
    · have hz : t35Z b p = upZ 38500000 b := by rw [t35Z, if_pos hr, if_neg hf]
      obtain ⟨h1, h2⟩ := baud_pos hr
      have HZ := Lib.hid hz; clear hz hr
      go_enter Try.func53, Try.ntmps53
      go_wp2_with fail
      refine (HV.out _).mono ?_
      rintro e w1 ⟨rfl, hb1⟩
      have q1 := (box_new hb1).1
      go_wp2_with fail
      refine (up_any _ _ (by omega) (by omega) (by omega) (by omega) _).mono ?_
      rintro e w2 ⟨rfl, rfl⟩
      go_wp2
      go_ret
      exact ⟨by rw [HZ.out]; rfl, ext_alloc' (Below.refl _ w) (by simpa using hb1)⟩

end Go.Proofs.Ytoliplochipoeaa

/- The receiver: its ten cells, and Deadline. -/
set_option linter.unusedVariables false
set_option linter.unusedSimpArgs false
namespace Go.Proofs.Ytoliplochipoeaa
open Go.RowKit

/-- char, t15, t35, the frame (bytes, first, last, flags), active, last, idle -/
def rcvCells (ch t15 t35 : Int) (bs : Value) (fi la fl : Int) (ac : Bool) (lt id_ : Int) : Array Value :=
  #[.int .i64 ch, .int .i64 t15, .int .i64 t35, bs, .int .i64 fi, .int .i64 la, .int .i64 fl, .bool ac, .int .i64 lt, .int .i64 id_]
set_option maxHeartbeats 1000000 in
theorem deadline_any (ch t15 t35 : Int) (bs : Value) (fi la fl : Int) (ac : Bool) (lt id_ : Int) (g : Nat) (w : World) (hB : Box w g (rcvCells ch t15 t35 bs fi la fl ac lt id_))
    (h1 : 0 ≤ ch) (h2 : ch ≤ 100000) (h3 : 0 ≤ t35) (h4 : t35 ≤ 100000) (h5 : 0 ≤ lt) (h6 : lt ≤ 1152921504606846976) :
    Calls Try.prog 76 #[.pointer (some ⟨g, 0, none⟩)] w fun e w' => e = .returned (.tuple #[.int .i64 (if ac then lt + t35 + ch else 0), .bool ac]) ∧ Below w.heap.size w w' := by
  obtain ⟨q, z, l⟩ := hB
  have y0 : w.cell? ⟨g, 0, none⟩ = some (.int .i64 ch) := q 0
  have y2 : w.cell? ⟨g, 2, none⟩ = some (.int .i64 t35) := q 2
  have y7 : w.cell? ⟨g, 7, none⟩ = some (.bool ac) := q 7
  have y8 : w.cell? ⟨g, 8, none⟩ = some (.int .i64 lt) := q 8
  have k1 : IntKind.i64.wrap (lt + t35) = lt + t35 := IntWalk.i64_in _ ⟨by omega, by omega⟩
  have k2 : IntKind.i64.wrap (lt + t35 + ch) = lt + t35 + ch := IntWalk.i64_in _ ⟨by omega, by omega⟩
  clear q h1 h2 h3 h4 h5 h6
  cases ac
  · go_enter Try.func76, Try.ntmps76
    go_wp2
    exact bodyPost_ret (v := .tuple #[.int .i64 0, .bool false]) (by simp [results, Try.results76, go_sem]) rfl ⟨rfl, by first | exact Below.refl _ _ | exact below_drew (Below.refl _ _)⟩
  · go_enter Try.func76, Try.ntmps76
    go_wp2_with fail
    go_quiet (fail)
    go_wp2
    exact bodyPost_ret (v := .tuple #[.int .i64 (lt + t35 + ch), .bool true]) (by simp [results, Try.results76, go_sem]) rfl ⟨rfl, by first | exact Below.refl _ _ | exact below_drewN (Below.refl _ _) _ | exact below_drew (Below.refl _ _)⟩
end Go.Proofs.Ytoliplochipoeaa

/- The receiver: a nil receiver's answers. -/
set_option linter.unusedVariables false
set_option linter.unusedSimpArgs false
namespace Go.Proofs.Ytoliplochipoeaa
open Go.RowKit

def noFrame : Value := .agg #[.slice none 0 0, .int .i64 0, .int .i64 0, .int .i64 0]
theorem deadline_nil (w : World) : Calls Try.prog 76 #[.pointer none] w fun e w' => e = .returned (.tuple #[.int .i64 0, .bool false]) ∧ Below w.heap.size w w' := by
  go_enter Try.func76, Try.ntmps76
  go_wp2
  exact bodyPost_ret (v := .tuple #[.int .i64 0, .bool false]) (by simp [results, Try.results76, go_sem]) rfl ⟨rfl, by first | exact Below.refl _ _ | exact below_drew (Below.refl _ _)⟩
theorem idle_nil (t : Int) (w : World) : Calls Try.prog 64 #[.pointer none, .int .i64 t] w fun e w' => e = .returned (.tuple #[noFrame, .bool false]) ∧ Below w.heap.size w w' := by
  go_enter Try.func64, Try.ntmps64
  go_wp2
  exact bodyPost_ret (v := .tuple #[noFrame, .bool false]) (by simp [results, Try.results64, go_sem, noFrame]) rfl ⟨rfl, by first | exact Below.refl _ _ | exact (Below.refl _ _).alloc (Nat.le_refl _) _⟩
end Go.Proofs.Ytoliplochipoeaa


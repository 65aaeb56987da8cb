import Derived.WalkKit
import Derived.WalkSpells
import Derived.WalkLawsBesides
import Derived.Lib.Hide
import Derived.Lib.SmallJoins
import Derived.Laws.OwnMore
import Derived.Deep.AppendLies
import Derived.Deep.Draws
import Derived.Deep.Onto
import Derived.Maps.AppendAt
import Derived.Deep.QuietTactic
import Derived.BigQuiet
import Derived.Test.YtoliplochipoeaaRows
import Derived.Deep.RegionHeld3
import Derived.Deep.RegionWith
import Derived.ProofKit
import Derived.Deep.Slices
import Derived.Deep.Fields
/- Words for memory: a slice that reads as a list of cells; what the call itself owns; small lemmas. No program of its own is named here. -/
set_option linter.unusedVariables false
set_option linter.unusedSimpArgs false
namespace Go.Proofs.Ytoliplochipoeaa
open Go.RowKit

/-! ### Slices that are read -/
/-- The slice with head A and length n, its elements 'size' cells each, reads as the cells xs; what it reads lies below block B. -/
def Rd (w : World) (B size : Nat) (A : Option Addr) (n : Nat) (xs : List Value) : Prop :=
  xs.length = n * size ∧ (0 < n → ∃ b off, A = some ⟨b, off, none⟩ ∧ b < B ∧ ∀ j u, xs[j]? = some u → w.cell? ⟨b, off + j, none⟩ = some u)

section
variable {w w' : World} {B B' size n : Nat} {A : Option Addr} {xs : List Value}
theorem Rd.nil_ : Rd w B size A 0 [] := ⟨by simp, fun h => absurd h (by omega)⟩
theorem Rd.keep (h : Rd w B size A n xs) (hk : ∀ p : Addr, p.block < B → w'.cell? p = w.cell? p) : Rd w' B size A n xs :=
  ⟨h.1, fun hn => by
    obtain ⟨b, off, e, hb, hc⟩ := h.2 hn
    exact ⟨b, off, e, hb, fun j u hu => (hk _ hb).trans (hc j u hu)⟩⟩
theorem Rd.more (h : Rd w B size A n xs) (hB : B ≤ B') : Rd w B' size A n xs :=
  ⟨h.1, fun hn => by
    obtain ⟨b, off, e, hb, hc⟩ := h.2 hn
    exact ⟨b, off, e, by omega, hc⟩⟩
theorem Rd.below {C : Nat} (h : Rd w B size A n xs) (hb : Below C w w') (hC : B ≤ C) : Rd w' B size A n xs := h.keep fun _ hp => hb.cell (by omega)
theorem Rd.of_own {base : Nat} {e : TypeId} {c : Nat} (h : w.ownsRow base e size (.slice A n c) n xs) : Rd w w.heap.size size A n xs := by
  refine ⟨h.1, fun hn => ?_⟩
  obtain ⟨g, cap, hv, _, hlt⟩ := h.form hn
  have hA : A = some ⟨g, 0, none⟩ := by injection hv
  subst hA
  refine ⟨g, 0, rfl, hlt, fun j u hu => ?_⟩
  have := h.cells (g := g) rfl j u hu
  rw [show (⟨g, 0 + j, none⟩ : Addr) = (⟨g, 0, none⟩ : Addr).add j from by unfold Addr.add; split <;> simp_all]
  exact this
theorem Rd.cut (h : Rd w B size A n xs) {k cap : Nat} (hk : k ≤ n) (hc : n ≤ cap) :
    Rd w B size (if cap = k then A else A.map (·.add (k * size))) (n - k) (xs.drop (k * size)) := by
  refine ⟨by rw [List.length_drop, h.1, Nat.sub_mul], fun hn => ?_⟩
  obtain ⟨b, off, rfl, hb, hcell⟩ := h.2 (by omega)
  rw [if_neg (by omega)]
  refine ⟨b, off + k * size, by simp only [Option.map_some, Addr.add]; split <;> simp_all, hb, fun j u hu => ?_⟩
  rw [Nat.add_assoc]
  exact hcell _ u (by rw [← hu, List.getElem?_drop])
theorem Rd.take (h : Rd w B size A n xs) {k : Nat} (hk : k ≤ n) : Rd w B size A k (xs.take (k * size)) := by
  refine ⟨by rw [List.length_take, h.1]; exact Nat.min_eq_left (Nat.mul_le_mul_right _ hk), fun hn => ?_⟩
  obtain ⟨b, off, rfl, hb, hcell⟩ := h.2 (by omega)
  exact ⟨b, off, rfl, hb, fun j u hu => hcell j u (by rw [List.getElem?_take] at hu; split at hu; exact hu; cases hu)⟩
end

theorem own_form {w : World} {base : Nat} {e : TypeId} {size n : Nat} {v : Value} {xs : List Value} (h : w.ownsRow base e size v n xs) :
    ∃ A c, v = .slice A n c ∧ n ≤ c ∧ Rd w w.heap.size size A n xs := by
  rcases h.2 with ⟨rfl, rfl⟩ | ⟨g, cap, cur, rfl, _, _, hc, _⟩
  · exact ⟨none, 0, rfl, Nat.le_refl _, Rd.of_own h⟩
  · exact ⟨_, _, rfl, hc, Rd.of_own h⟩
theorem own_below {w w' : World} {base C : Nat} {e : TypeId} {size n : Nat} {v : Value} {xs : List Value} (h : w.ownsRow base e size v n xs) (hb : Below C w w') (hC : w.heap.size ≤ C) : w'.ownsRow base e size v n xs := by
  refine ⟨h.1, ?_⟩
  rcases h.2 with hn | ⟨g, cap, cur, rfl, hb', hgg, rest⟩
  · exact .inl hn
  · refine .inr ⟨g, cap, cur, rfl, hb', ?_, rest⟩
    rw [hb.block g (Nat.lt_of_lt_of_le (Array.getElem?_eq_some_iff.1 hgg).1 hC)]
    exact hgg
theorem own_mono {w : World} {base base' : Nat} {e : TypeId} {size n : Nat} {v : Value} {xs : List Value} (h : w.ownsRow base e size v n xs) (hb : base' ≤ base) : w.ownsRow base' e size v n xs := World.ownsRow.mono h hb
/-- Of a slice whose elements are one cell: the cell k of the elements. -/
theorem Rd.at1 {w : World} {B n : Nat} {A : Option Addr} {xs : List Value} (h : Rd w B 1 A n xs) (hn : 0 < n) : ∃ b off, A = some ⟨b, off, none⟩ ∧ b < B ∧ ∀ k, k < n → ∃ u, xs[k]? = some u ∧ w.cell? ⟨b, off + k, none⟩ = some u := by
  obtain ⟨b, off, e, hb, hc⟩ := h.2 hn
  refine ⟨b, off, e, hb, fun k hk => ?_⟩
  have hl : k < xs.length := by have := h.1; omega
  exact ⟨xs[k], List.getElem?_eq_getElem hl, hc k _ (List.getElem?_eq_getElem hl)⟩

theorem Rd.lit {w : World} {size n : Nat} {cs : Array Value} {e : TypeId} {fz : Nat × Nat} {B : Nat} (hs : cs.size = n * size) (hB : w.heap.size < B) : Rd (w.alloc (.cells cs e fz)) B size (some ⟨w.heap.size, 0, none⟩) n cs.toList := by
  refine ⟨by simpa using hs, fun _ => ⟨_, _, rfl, hB, fun j u hu => ?_⟩⟩
  rw [Nat.zero_add, cell_of_row _ w.heap.size j cs e fz (heap_alloc_new w _)]
  simpa using hu

/-! ### One world grows out of another: 'Below a.heap.size a b' -/
theorem ext_trans {a b c : World} (h : Below a.heap.size a b) (k : Below b.heap.size b c) : Below a.heap.size a c := h.trans (k.mono h.size)
theorem ext_alloc {a b : World} (h : Below a.heap.size a b) (o : Obj) : Below a.heap.size a (b.alloc o) := h.alloc h.size o
theorem ext_alloc' {a b c : World} {o : Obj} (h : Below a.heap.size a b) (k : Below (b.heap.size + 1) (b.alloc o) c) : Below a.heap.size a c := (h.alloc h.size o).trans (k.mono (by have := h.size; omega))
theorem ext_drewN {a b : World} (h : Below a.heap.size a b) (n : Nat) : Below a.heap.size a (b.drewN n) := below_drewN h n
theorem ext_one {a b : World} {o : Obj} (k : Below (a.heap.size + 1) (a.alloc o) b) : Below a.heap.size a b := ext_alloc' (Below.refl _ a) k

/-! ### bounds out of 'wf' -/
theorem wf_u8 {n : Int} (h : (Lit.int .u8 n).wf = true) : 0 ≤ n ∧ n ≤ 255 := by
  simp [Lit.wf, IntKind.min, IntKind.max, IntKind.signed, IntKind.bits] at h; omega
theorem wf_i64' {n : Int} (h : (Lit.int .i64 n).wf = true) : -9223372036854775808 ≤ n ∧ n ≤ 9223372036854775807 := by
  simp [Lit.wf, IntKind.min, IntKind.max, IntKind.signed, IntKind.bits] at h; omega

/-! ### a quiet call inside a region that draws its order -/
theorem quiet_left {P : Program} {f : FuncId} {args : Array Value} {w : World} {n : Nat} {v : Value}
    (h : Calls P f args (w.drewN n) fun e w' => e = .returned v ∧ w.drewN n = w') : Calls P f args (w.drewN n) fun e w' => e = .returned v ∧ ∃ m, w' = w.drewN m :=
  h.mono fun _ _ ⟨he, hm⟩ => ⟨he, n, hm.symm⟩
theorem quiet_add_left {P : Program} {f : FuncId} {args : Array Value} {w : World} {a n : Nat} {v : Value}
    (h : Calls P f args (w.drewN (a + n)) fun e w' => e = .returned v ∧ w.drewN (a + n) = w') :
    Calls P f args (w.drewN (a + n)) fun e w'' => e = .returned v ∧ ∃ m, w'' = w.drewN (a + m) :=
  h.mono fun _ _ ⟨he, hm⟩ => ⟨he, n, hm.symm⟩

/-! ### append onto a row of the call's own -/
/-- 'append(v, x)', x a block that has just been laid (its 'm' elements are the cells cs): v is nil or a row of the call's own. -/
theorem wpList_app {P : Program} {w : World} {ops : Array Oper} {rest : List Oper} {o : Oper} {a : Act} {Q : Exit → Act → World → Prop} {cs : Array Value}
    (s x : Operand) (t : TypeId) (base : Nat) (e : TypeId) (z : Value) (size bytes : Nat) (v : Value) (n m c : Nat) (xs : List Value)
    (ht : P.underlying t = some (.slice e)) (hE : (P.info? e).map (fun i => (i.zero, i.size, i.bytes)) = some (some z, size, bytes)) (hzs : z.cells.size = size) (hsz : 0 < size)
    (hgd : o.guard = none) (ho : o.op = .call { callee := .builtin .append, args := #[s, x], argTypes := #[t, t] })
    (hs : a.eval s = v) (hx : a.eval x = .slice (some ⟨w.heap.size, 0, none⟩) m c) (hown : w.ownsRow base e size v n xs)
    (hl : cs.size = m * size) (h1 : ∀ u ∈ cs.toList, u.oneCell' = true)
    (h63 : n + m ≤ 1000000) (hby : bytes ≤ 1000) (hbase : base ≤ w.heap.size)
    (h : ∀ v' w', w'.ownsRow base e size v' (n + m) (xs ++ cs.toList) → (w.alloc (.cells cs e)).grownBy w' v.ownBlock → Below base w w' → wpList P ops Q rest (a.put o.dst v') w') :
    wpList P ops Q (o :: rest) a (w.alloc (.cells cs e)) := by
  obtain ⟨i, hi, hz, hsize, hbytes⟩ := info_parts hE
  refine wpList_append_own _ hgd s x t ho base e i z size bytes ht hi hz hsize hbytes hzs hsz v n xs hs (hown.alloc _) ⟨w.heap.size, 0, none⟩ m c cs.toList hx (by simpa using hl) ?_ h1
    (by simp only [maxLen]; omega) (Nat.le_trans (Nat.mul_le_mul h63 hby) (by decide)) (by simp; omega) ?_
  · intro j u hu
    have e1 : (⟨w.heap.size, 0, none⟩ : Addr).add j = ⟨w.heap.size, j, none⟩ := by unfold Addr.add; split <;> simp_all
    rw [e1, cell_of_row _ w.heap.size j cs e (0, 0) (heap_alloc_new w _)]
    simpa using hu
  · intro v' w' h2 h3 _
    refine h v' w' h2 h3 (((Below.refl base w).alloc hbase _).grown h3 (by simp; omega) ?_)
    intro k hk
    exact (hown.lt k hk).1

end Go.Proofs.Ytoliplochipoeaa

/- Contracts of the functions of package uart (layer 7): possible, parityBit, Encode, Decode, Stream. -/
set_option linter.unusedVariables false
set_option linter.unusedSimpArgs false
namespace Go.Proofs.Ytoliplochipoeaa
open Go.RowKit

def bt (l : List Bool) (k : Nat) : Bool := l.getD k false
theorem bt_some (l : List Bool) (k : Nat) (h : k < l.length) : (l.map Value.bool)[k]? = some (.bool (bt l k)) := by simp [bt, List.getD, List.getElem?_eq_getElem h]
/-- The exclusive or of the bits of a byte. -/
def pb (n : Nat) : Bool := if n = 0 then false else ((n % 2 == 1) != pb (n / 2))
decreasing_by omega
def parity (b : Nat) (p : Int) : Bool := if p = 1 then pb b else if p = 2 then !pb b else true

theorem possible_any (p : Int) (w : World) : Calls Try.prog 25 #[.int .i64 p] w fun e w' => e = .returned (.bool (decide (0 ≤ p ∧ p ≤ 2))) ∧ w = w' := by
  go_enter Try.func25, Try.ntmps25
  go_wp2
  all_goals (go_ret; simp_all; try omega)

theorem pb_step (m : Nat) (h : m ≠ 0) : pb m = ((m % 2 == 1) != pb (m / 2)) := by rw [pb, if_neg h]
theorem pb_zero : pb 0 = false := by rw [pb]; rfl
theorem u8_and1 (m : Nat) (h : m ≤ 255) : bits BinOp.and IntKind.u8 (m : Int) 1 = ((m % 2 : Nat) : Int) := by
  have : ∀ m : Fin 256, bits BinOp.and IntKind.u8 ((m : Nat) : Int) 1 = (((m : Nat) % 2 : Nat) : Int) := by decide +kernel
  exact this ⟨m, by omega⟩
theorem beq_nat_int (a b : Nat) : (((a : Nat) : Int) == ((b : Nat) : Int)) = (a == b) := by rw [Bool.eq_iff_iff]; simp; omega

theorem parityBit_any (b : Nat) (hb : b ≤ 255) (p : Int) (w : World) : Calls Try.prog 26 #[.int .u8 b, .int .i64 p] w fun e w' => e = .returned (.bool (parity b p)) ∧ w = w' := by
  go_enter Try.func26, Try.ntmps26
  go_wp2
  go_loop [0, 5] (fun x o => ∃ (m : Nat) (q : Bool), m ≤ 255 ∧ x = .int .u8 m ∧ o = .bool q ∧ (q != pb m) = pb b) (fun x _ => (intOf x).toNat)
  case atStart => exact ⟨b, false, hb, rfl, rfl, by simp⟩
  case round =>
    obtain ⟨m, q, hm, rfl, rfl, hrel⟩ := hrel
    have H := Lib.hid hrel; clear hrel
    go_wp2
    · have hne : m ≠ 0 := by have := ‹((m : Int) != 0) = true›; simp at this; exact this
      refine ⟨⟨m / 2, _, by omega, by simp, rfl, ?_⟩, by simp [intOf]; omega⟩
      rw [u8_and1 m hm, ← H.out, pb_step m hne, show ((1 : Int)) = ((1 : Nat) : Int) from rfl, beq_nat_int]
      generalize (m % 2 == 1) = x; generalize pb (m / 2) = y
      cases q <;> cases x <;> cases y <;> rfl
    all_goals
      have hz : m = 0 := by have := ‹((m : Int) != 0) = false›; simp at this; exact this
      have hq : q = pb b := by rw [← H.out, hz, pb_zero]; simp
      go_ret
      refine ⟨?_, rfl⟩
      subst hq
      simp_all [parity]

/-- The bits of a byte from bit 0 on. -/
def bitsOf (b : Nat) (k : Nat) : List Bool := (List.range k).map fun i => b.testBit i
def encode (b : Nat) (p : Int) : List Bool := if 0 ≤ p ∧ p ≤ 2 then false :: (bitsOf b 8 ++ [parity b p, true]) else []
theorem bitsOf_succ (b k : Nat) : bitsOf b (k + 1) = bitsOf b k ++ [b.testBit k] := by simp [bitsOf, List.range_succ]
theorem bitsOf_length (b k : Nat) : (bitsOf b k).length = k := by simp [bitsOf]
theorem bit_u8 (b k : Nat) (hb : b ≤ 255) : (bits BinOp.and IntKind.u8 ((b : Int) / 2 ^ k) 1 == 1) = b.testBit k := by
  have h2 : b / 2 ^ k ≤ b := Nat.div_le_self _ _
  have e : (b : Int) / 2 ^ k = ((b / 2 ^ k : Nat) : Int) := by simp
  rw [e, u8_and1 _ (by omega), show ((1 : Int)) = ((1 : Nat) : Int) from rfl, beq_nat_int, Nat.testBit_eq_decide_div_mod_eq]
  rfl
theorem boolInfo : (Try.prog.info? 4).map (fun i => (i.zero, i.size, i.bytes)) = some (some (.bool false), 1, 1) := by kernel_rfl

set_option maxHeartbeats 400000 in
theorem encode_any (b : Nat) (hb : b ≤ 255) (p : Int) (w : World) : Calls Try.prog 10 #[.int .u8 b, .int .i64 p] w fun e w' =>
    ∃ v, e = .returned v ∧ w'.ownsRow w.heap.size 4 1 v (encode b p).length ((encode b p).map Value.bool) ∧ Below w.heap.size w w' := by
  by_cases hp : 0 ≤ p ∧ p ≤ 2
  · have hd : decide (0 ≤ p ∧ p ≤ 2) = true := by simpa using hp
    go_enter Try.func10, Try.ntmps10
    go_wp2_with (go_at_call 25; refine (possible_any _ _).mono ?_; rintro e w' ⟨rfl, rfl⟩)
    go_loopw [5, 11] (fun v i wr => ∃ k : Nat, k ≤ 8 ∧ i = .int .i64 k ∧ wr.ownsRow w.heap.size 4 1 v (k + 1) ((false :: bitsOf b k).map Value.bool) ∧ Below w.heap.size w wr) (fun _ i _ => 8 - (intOf i).toNat)
    case atStart => exact ⟨0, by omega, rfl, World.ownsRow_lit _ _ 1 (Nat.le_refl _) (by simp [maxLen]) rfl, (Below.refl _ _).alloc (Nat.le_refl _) _⟩
    case round =>
      obtain ⟨k, hk, rfl, hown, hbel⟩ := hrel
      have hsz := hbel.size
      by_cases hlt : k < 8
      · go_wp2_with (at_builtin; refine wpList_app (.tmp 14) (.tmp 20) 35 w.heap.size 4 _ 1 1 _ (k + 1) 1 1 _ Try.underlying35 boolInfo rfl (by decide) rfl rfl rfl rfl hown rfl (by simp [Value.oneCell']) (by omega) (by omega) hsz ?_; intro v1 w1 hown1 hg1 hb1)
        refine ⟨⟨k + 1, by omega, by go_num, ?_, hbel.trans hb1⟩, by simp [intOf]; omega⟩
        rw [bitsOf_succ]
        rw [bit_u8 b k hb] at hown1
        simpa using hown1
      · obtain rfl : k = 8 := by omega
        go_wp2_with (first
          | (go_at_call 26; refine (parityBit_any b hb _ _).mono ?_; rintro e w' ⟨rfl, rfl⟩)
          | (at_builtin; refine wpList_app (.tmp 23) (.tmp 27) 35 w.heap.size 4 _ 1 1 _ 9 2 2 _ Try.underlying35 boolInfo rfl (by decide) rfl rfl rfl rfl hown rfl (by simp [Value.oneCell']) (by omega) (by omega) hsz ?_; intro v1 w1 hown1 hg1 hb1))
        go_ret
        refine ⟨_, rfl, ?_, hbel.trans hb1⟩
        simpa [encode, hp, bitsOf_length] using hown1
  · have hd : decide (0 ≤ p ∧ p ≤ 2) = false := by simpa using hp
    go_enter Try.func10, Try.ntmps10
    go_wp2_with (go_at_call 25; refine (possible_any _ _).mono ?_; rintro e w' ⟨rfl, rfl⟩)
    go_ret
    refine ⟨_, rfl, ?_, Below.refl _ _⟩
    rw [encode, if_neg hp]
    exact World.ownsRow_nil _ _ _ _

end Go.Proofs.Ytoliplochipoeaa

/- Contracts of package uart: Decode. -/
set_option linter.unusedVariables false
set_option linter.unusedSimpArgs false
namespace Go.Proofs.Ytoliplochipoeaa
open Go.RowKit

/-- The byte of the first k bits behind the start bit. -/
def byteOf (l : List Bool) : Nat → Nat
  | 0 => 0
  | k + 1 => byteOf l k + (if bt l (1 + k) then 2 ^ k else 0)
theorem byteOf_lt (l : List Bool) (k : Nat) : byteOf l k < 2 ^ k := by
  induction k with
  | zero => simp [byteOf]
  | succ k ih => rw [byteOf, Nat.pow_succ]; split <;> omega
def flags3 (p : Int) (x y z : Bool) : Int :=
  let f : Int := if x != y then (if p = 0 then 2 else 1) else 0
  if z then f else if f = 1 then 3 else 2
def flagsOf (l : List Bool) (p : Int) : Int := flags3 p (bt l 9) (parity (byteOf l 8) p) (bt l 10)
def decode (l : List Bool) (p : Int) : Nat × Int × Bool :=
  if l.length = 11 ∧ bt l 0 = false ∧ 0 ≤ p ∧ p ≤ 2 then (byteOf l 8, flagsOf l p, true) else (0, 0, false)

theorem or_u8 (m k : Nat) (hk : k < 8) (hm : m < 2 ^ k) : bits BinOp.or IntKind.u8 (m : Int) (IntKind.u8.wrap (2 ^ k)) = ((m + 2 ^ k : Nat) : Int) := by
  have : ∀ k : Fin 8, ∀ m : Fin 128, (m : Nat) < 2 ^ (k : Nat) → bits BinOp.or IntKind.u8 ((m : Nat) : Int) (IntKind.u8.wrap (2 ^ (k : Nat))) = (((m : Nat) + 2 ^ (k : Nat) : Nat) : Int) := by decide +kernel
  exact this ⟨k, hk⟩ ⟨m, by have : 2 ^ k ≤ 2 ^ 7 := Nat.pow_le_pow_right (by decide) (by omega); omega⟩ hm

theorem or02 : bits BinOp.or IntKind.i64 0 2 = 2 := by decide +kernel
theorem or22 : bits BinOp.or IntKind.i64 2 2 = 2 := by decide +kernel
theorem or01 : bits BinOp.or IntKind.i64 0 1 = 1 := by decide +kernel
theorem or12 : bits BinOp.or IntKind.i64 1 2 = 3 := by decide +kernel
theorem parityBit_eq (b : Nat) (hb : b ≤ 255) (p : Int) (y : Bool) (hy : parity b p = y) (w : World) : Calls Try.prog 26 #[.int .u8 b, .int .i64 p] w fun e w' => e = .returned (.bool y) ∧ w = w' := by
  subst hy; exact parityBit_any b hb p w
set_option maxHeartbeats 400000 in
theorem decode_any (l : List Bool) (A : Option Addr) (c B : Nat) (p : Int) (w : World) (hr : Rd w B 1 A l.length (l.map Value.bool)) :
    Calls Try.prog 28 #[.slice A l.length c, .int .i64 p] w fun e w' =>
    e = .returned (.tuple #[.int .u8 (decode l p).1, .int .i64 (decode l p).2.1, .bool (decode l p).2.2]) ∧ ∃ n, w' = w.drewN n := by
  by_cases hn : l.length = 11
  · obtain ⟨b, off, rfl, _, hc⟩ := hr.2 (by omega)
    have hcell : ∀ j, j < 11 → w.cell? ⟨b, off + j, none⟩ = some (.bool (bt l j)) := fun j hj => hc j _ (by simp [bt, List.getD, List.getElem?_eq_getElem (show j < l.length by omega)])
    clear hc hr
    have h0 : w.cell? ⟨b, off, none⟩ = some (.bool (bt l 0)) := hcell 0 (by omega)
    by_cases hz : bt l 0 = true
    · rw [hz] at h0
      have he : decode l p = (0, 0, false) := by rw [decode, if_neg (by rw [hz]; simp)]
      have HE := Lib.hid he; clear he hz hcell
      rw [hn]
      clear hn
      go_enter Try.func28, Try.ntmps28
      go_wp2
      go_ret3
      rw [HE.out]
      exact ⟨rfl, 0, rfl⟩
    · have hz' : bt l 0 = false := by simpa using hz
      rw [hz'] at h0
      by_cases hp : 0 ≤ p ∧ p ≤ 2
      · have hd : decide (0 ≤ p ∧ p ≤ 2) = true := by simpa using hp
        have h9 := hcell 9 (by omega)
        have h10 := hcell 10 (by omega)
        have he : decode l p = (byteOf l 8, flagsOf l p, true) := by rw [decode, if_pos ⟨hn, hz', hp⟩]
        have HE := Lib.hid he; clear he
        have HC := Lib.hid hcell; clear hcell
        clear hz
        have HZ := Lib.hid hz'; clear hz'
        rw [hn]
        clear hn
        go_enter Try.func28, Try.ntmps28
        go_wp2_with (go_at_call 25; refine (possible_any _ _).mono ?_; rintro e w' ⟨rfl, rfl⟩)
        go_loop [4, 21] (fun x i => ∃ k : Nat, k ≤ 8 ∧ i = .int .i64 k ∧ x = .int .u8 (byteOf l k)) (fun _ i => 8 - (intOf i).toNat)
        case atStart => exact ⟨0, by omega, rfl, rfl⟩
        case round =>
          obtain ⟨k, hk, rfl, rfl⟩ := hrel
          by_cases hlt : k < 8
          · have hk1 := HC.out (1 + k) (by omega)
            have hb := byteOf_lt l k
            by_cases hv : bt l (1 + k) = true
            · have hs : byteOf l (k + 1) = byteOf l k + 2 ^ k := by rw [byteOf, if_pos hv]
              have HS := Lib.hid hs; clear hs
              rw [hv] at hk1
              clear hv
              go_wp2
              refine ⟨⟨k + 1, by omega, by go_num, ?_⟩, by simp [intOf]; omega⟩
              rw [HS.out, ← or_u8 _ _ hlt hb]
              simp [IntKind.wrap_u8]
            · have hv' : bt l (1 + k) = false := by simpa using hv
              have hs : byteOf l (k + 1) = byteOf l k := by rw [byteOf, if_neg hv]; rfl
              have HS := Lib.hid hs; clear hs
              rw [hv'] at hk1
              clear hv hv'
              go_wp2
              refine ⟨⟨k + 1, by omega, by go_num, ?_⟩, by simp [intOf]; omega⟩
              rw [HS.out]
          · obtain rfl : k = 8 := by omega
            have hb := byteOf_lt l 8
            obtain ⟨y, hy⟩ : ∃ y, parity (byteOf l 8) p = y := ⟨_, rfl⟩
            have hpb := fun w => parityBit_eq (byteOf l 8) (by omega) p y hy w
            have HY := Lib.hid hy; clear hy
            obtain ⟨x, hx⟩ : ∃ x, bt l 9 = x := ⟨_, rfl⟩
            rw [hx] at h9
            have HX := Lib.hid hx; clear hx
            obtain ⟨z, hz⟩ : ∃ z, bt l 10 = z := ⟨_, rfl⟩
            rw [hz] at h10
            have HZ' := Lib.hid hz; clear hz
            have HP := Lib.hid hpb; clear hpb
            rcases Decidable.em (p = 0) with ep | ep
            · have ep' : (p == 0) = true := by simpa using ep
              have EP := Lib.hid ep; clear ep
              cases x <;> cases y <;> cases z
              all_goals
                go_wp2
                go_quiet ((go_at_call 26; exact quiet_left (HP.out _)))
                go_wp2
                go_ret3
                rw [HE.out, flagsOf, HX.out, HY.out, HZ'.out]
                exact ⟨by simp [flags3, EP.out, or02, or22, or01, or12], _, rfl⟩
            · have ep' : (p == 0) = false := by simpa using ep
              have EP := Lib.hid ep; clear ep
              cases x <;> cases y <;> cases z
              all_goals
                go_wp2
                go_quiet ((go_at_call 26; exact quiet_left (HP.out _)))
                go_wp2
                go_ret3
                rw [HE.out, flagsOf, HX.out, HY.out, HZ'.out]
                exact ⟨by simp [flags3, EP.out, or02, or22, or01, or12], _, rfl⟩
      · have hd : decide (0 ≤ p ∧ p ≤ 2) = false := by simpa using hp
        have he : decode l p = (0, 0, false) := by rw [decode, if_neg (by intro h; exact hp h.2.2)]
        have HE := Lib.hid he; clear he
        clear hz hcell
        have HZ := Lib.hid hz'; clear hz'
        rw [hn]
        clear hn
        go_enter Try.func28, Try.ntmps28
        go_wp2_with (go_at_call 25; refine (possible_any _ _).mono ?_; rintro e w' ⟨rfl, rfl⟩)
        go_ret3
        rw [HE.out]
        exact ⟨rfl, 0, rfl⟩
  · have he : decode l p = (0, 0, false) := by rw [decode, if_neg (by simp [hn])]
    have HE := Lib.hid he; clear he
    have hne : ((l.length : Int) != 11) = true := by simp; omega
    clear hn hr
    go_enter Try.func28, Try.ntmps28
    go_wp2
    go_ret3
    rw [HE.out]
    exact ⟨rfl, 0, rfl⟩

end Go.Proofs.Ytoliplochipoeaa

/- Contracts of the reference's functions for characters (layer 7): ones, Encode, Decode; of the law's own 'same'. -/
set_option linter.unusedVariables false
set_option linter.unusedSimpArgs false
namespace Go.Proofs.Ytoliplochipoeaa
open Go.RowKit

def onesOf (l : List Bool) (k : Nat) : Nat := ((l.take k).filter id).length
theorem onesOf_succ (l : List Bool) (k : Nat) (h : k < l.length) : onesOf l (k + 1) = onesOf l k + (if bt l k then 1 else 0) := by
  unfold onesOf
  rw [List.take_succ_eq_append_getElem h, List.filter_append]
  have : bt l k = l[k] := by simp [bt, List.getD, List.getElem?_eq_getElem h]
  rw [this]
  cases l[k] <;> simp

theorem ones_bits (b : Nat) (hb : b ≤ 255) : (onesOf (false :: bitsOf b 8) 9) % 2 = if pb b then 1 else 0 := by
  have : ∀ b : Fin 256, (onesOf (false :: bitsOf b 8) 9) % 2 = if pb b then 1 else 0 := by decide +kernel
  exact this ⟨b, by omega⟩

theorem same_list (a b : List Bool) (hl : a.length = b.length) (k : Nat) (hk : k < a.length) (h : a.take k = b.take k) : (a.take (k + 1) = b.take (k + 1)) ↔ bt a k = bt b k := by
  have hk' : k < b.length := hl ▸ hk
  rw [List.take_succ_eq_append_getElem hk, List.take_succ_eq_append_getElem hk', h, List.append_cancel_left_eq]
  simp [bt, List.getD, List.getElem?_eq_getElem hk, List.getElem?_eq_getElem (hl ▸ hk)]

end Go.Proofs.Ytoliplochipoeaa

/- More words for memory: append from a slice that is read. -/
set_option linter.unusedVariables false
set_option linter.unusedSimpArgs false
namespace Go.Proofs.Ytoliplochipoeaa
open Go.RowKit

/-- A box (a struct that lies in a block of its own), behind a call that only makes memory. -/
theorem box_new {w w1 : World} {cs : Array Value} {e : TypeId} (hb : Below (w.alloc (.cells cs e)).heap.size (w.alloc (.cells cs e)) w1) : (∀ i, w1.cell? ⟨w.heap.size, i, none⟩ = cs[i]?) ∧ (∀ i, w1.frozen? ⟨w.heap.size, i, none⟩ = false) ∧ w.heap.size < w1.heap.size := by
  have hlt : w.heap.size < (w.alloc (.cells cs e)).heap.size := by simp
  refine ⟨fun i => ?_, fun i => ?_, by have := hb.size; simp at this; omega⟩
  · rw [hb.cell (p := ⟨w.heap.size, i, none⟩) hlt]
    exact cell_of_row _ w.heap.size i cs e (0, 0) (heap_alloc_new w _)
  · rw [hb.frozen (p := ⟨w.heap.size, i, none⟩) hlt]
    exact World.frozen?_alloc_at _ _ _ _ rfl
theorem box_keep {w1 w2 : World} {b : Nat} {cs : Array Value} (h : ∀ i, w1.cell? ⟨b, i, none⟩ = cs[i]?) (hz : ∀ i, w1.frozen? ⟨b, i, none⟩ = false) (hlt : b < w1.heap.size) (hb : Below w1.heap.size w1 w2) :
    (∀ i, w2.cell? ⟨b, i, none⟩ = cs[i]?) ∧ (∀ i, w2.frozen? ⟨b, i, none⟩ = false) ∧ b < w2.heap.size :=
  ⟨fun i => (hb.cell (p := ⟨b, i, none⟩) hlt).trans (h i), fun i => (hb.frozen (p := ⟨b, i, none⟩) hlt).trans (hz i), Nat.lt_of_lt_of_le hlt hb.size⟩
theorem Rd.fits {w : World} {B size n : Nat} {A : Option Addr} {xs : List Value} (h : Rd w B size A n xs) (h0 : 0 < size) : Rd w w.heap.size size A n xs := by
  refine ⟨h.1, fun hn => ?_⟩
  obtain ⟨b, off, e, hb, hc⟩ := h.2 hn
  have hl : 0 < xs.length := by rw [h.1]; exact Nat.mul_pos hn h0
  have := World.block_lt_of_cell? _ _ (hc 0 _ (List.getElem?_eq_getElem hl))
  exact ⟨b, off, e, this, hc⟩
theorem Rd.alloc' {w : World} {B size n : Nat} {A : Option Addr} {xs : List Value} (h : Rd w B size A n xs) (o : Obj) (hB : B ≤ w.heap.size) : Rd (w.alloc o) B size A n xs :=
  h.keep fun p hp => World.cell?_alloc_lt _ _ p (by omega)
/-- 'append(v, src...)': v is nil or a row of the call's own, src is any slice that reads as the cells news. -/
theorem wpList_appR {P : Program} {w : World} {ops : Array Oper} {rest : List Oper} {o : Oper} {a : Act} {Q : Exit → Act → World → Prop}
    (s x : Operand) (t : TypeId) (base : Nat) (e : TypeId) (z : Value) (size bytes : Nat) (v : Value) (n : Nat) (xs : List Value) (B : Nat) (A : Option Addr) (m c : Nat) (news : List Value)
    (ht : P.underlying t = some (.slice e)) (hE : (P.info? e).map (fun i => (i.zero, i.size, i.bytes)) = some (some z, size, bytes)) (hzs : z.cells.size = size) (hsz : 0 < size)
    (hgd : o.guard = none) (ho : o.op = .call { callee := .builtin .append, args := #[s, x], argTypes := #[t, t] })
    (hs : a.eval s = v) (hx : a.eval x = .slice A m c) (hown : w.ownsRow base e size v n xs) (hr : Rd w B size A m news) (h1 : ∀ u ∈ news, u.oneCell' = true)
    (h63 : n + m ≤ 1000000) (hby : bytes ≤ 1000) (hbase : base ≤ w.heap.size)
    (h : ∀ v' w', w'.ownsRow base e size v' (n + m) (xs ++ news) → w.grownBy w' v.ownBlock → Below base w w' → wpList P ops Q rest (a.put o.dst v') w') :
    wpList P ops Q (o :: rest) a w := by
  obtain ⟨i, hi, hz, hsize, hbytes⟩ := info_parts hE
  rcases A with _ | ad
  · have hm : m = 0 := by
      rcases Nat.eq_zero_or_pos m with h0 | h0
      · exact h0
      · obtain ⟨b, off, h, _⟩ := hr.2 h0
        cases h
    subst hm
    have hn : news = [] := List.eq_nil_of_length_eq_zero (by simpa using hr.1)
    subst hn
    refine wpList_plain hgd fun K hK => ?_
    have hrun : (Builtin.append_ #[t, t] o.type #[v, .slice none 0 c]).run P w = .ok v w := by
      rcases hown.2 with ⟨rfl, rfl⟩ | ⟨g, cap, cur, rfl, _, _, hnc, _⟩
      · simp [Builtin.append_, run_underlying ht, sizeOf, typeInfo, hi, Builtin.lenOf, Builtin.firstCells]
      · simp [Builtin.append_, run_underlying ht, sizeOf, typeInfo, hi, Builtin.lenOf, Builtin.firstCells, hnc, storeCells]
    unfold Oper.wp execOp
    simp only [ho, resolve, invoke, builtin, Sem.run_bind, Sem.run_pure, Result.andThen_ok, List.map_toArray, List.map_cons, List.map_nil, hs, hx, hrun]
    exact hK _ _ (h v w (by simpa using hown) (World.grownBy.refl w _) (Below.refl _ _))
  · refine wpList_append_own _ hgd s x t ho base e i z size bytes ht hi hz hsize hbytes hzs hsz v n xs hs hown ad m c news hx hr.1 ?_ h1
      (by simp only [maxLen]; omega) (Nat.le_trans (Nat.mul_le_mul h63 hby) (by decide)) hbase ?_
    · intro j u hu
      rcases Nat.eq_zero_or_pos m with h0 | h0
      · subst h0
        have hn : news = [] := List.eq_nil_of_length_eq_zero (by simpa using hr.1)
        subst hn
        simp at hu
      · obtain ⟨b, off, h, _, hc⟩ := hr.2 h0
        injection h with h
        subst h
        have e1 : (⟨b, off, none⟩ : Addr).add j = ⟨b, off + j, none⟩ := by unfold Addr.add; split <;> simp_all
        rw [e1]
        exact hc j u hu
    · intro v' w' h2 h3 _
      exact h v' w' h2 h3 ((Below.refl base w).grown h3 hbase (fun k hk => (hown.lt k hk).1))

end Go.Proofs.Ytoliplochipoeaa

/- Layer 7: characters in a sequence of bits: plain functions, slices.Index over bits, Stream of the program and of the reference. -/
set_option linter.unusedVariables false
set_option linter.unusedSimpArgs false
namespace Go.Proofs.Ytoliplochipoeaa
open Go.RowKit

/-- The character that begins at i. -/
def chrAt (l : List Bool) (p : Int) (i : Nat) : Nat × Int × Bool := decode ((l.drop i).take 11) p
structure UEv where
  at_ : Nat
  val : Nat
  fl : Int
deriving DecidableEq
def chars (l : List Bool) (p : Int) (i : Nat) : List UEv :=
  if h : i + 11 ≤ l.length then (if bt l i then chars l p (i + 1) else ⟨i + 10, (chrAt l p i).1, (chrAt l p i).2.1⟩ :: chars l p (i + 11)) else []
termination_by l.length - i
theorem chars_short (l : List Bool) (p : Int) (i : Nat) (h : l.length < i + 11) : chars l p i = [] := by
  rw [chars, dif_neg (by omega)]
theorem chars_skip (l : List Bool) (p : Int) (i : Nat) (h : bt l i = true) : chars l p i = chars l p (i + 1) := by
  by_cases hl : i + 11 ≤ l.length
  · rw [chars, dif_pos hl, if_pos h]
  · rw [chars_short l p i (by omega), chars_short l p (i + 1) (by omega)]
theorem chars_take (l : List Bool) (p : Int) (i : Nat) (hl : i + 11 ≤ l.length) (h : bt l i = false) : chars l p i = ⟨i + 10, (chrAt l p i).1, (chrAt l p i).2.1⟩ :: chars l p (i + 11) := by
  rw [chars, dif_pos hl, if_neg (by simp [h])]
theorem chars_skips (l : List Bool) (p : Int) (i d : Nat) (h : ∀ j, j < d → bt l (i + j) = true) : chars l p i = chars l p (i + d) := by
  induction d with
  | zero => rfl
  | succ d ih =>
    rw [ih (fun j hj => h j (by omega)), chars_skip l p (i + d) (h d (by omega))]
    rfl
def uevRow (e : UEv) : List Value := [.int .i64 e.at_, .int .u8 e.val, .int .i64 e.fl]
def uevCells (l : List UEv) : List Value := (l.map uevRow).flatten
theorem uevCells_snoc (l : List UEv) (e : UEv) : uevCells (l ++ [e]) = uevCells l ++ uevRow e := by simp [uevCells]
theorem uevCells_length (l : List UEv) : (uevCells l).length = l.length * 3 := by
  unfold uevCells; induction l with
  | nil => rfl
  | cons e l ih => simp only [List.map_cons, List.flatten_cons, List.length_append, List.length_cons, ih]; simp [uevRow]; omega
theorem chars_len (l : List Bool) (p : Int) : ∀ (n i : Nat), l.length - i ≤ n → (chars l p i).length ≤ l.length - i
  | 0, i, h => by rw [chars_short l p i (by omega)]; simp
  | n + 1, i, h => by
    by_cases hl : i + 11 ≤ l.length
    · by_cases hb : bt l i = true
      · rw [chars_skip l p i hb]; have := chars_len l p n (i + 1) (by omega); omega
      · rw [chars_take l p i hl (by simpa using hb), List.length_cons]
        have := chars_len l p n (i + 11) (by omega); omega
    · rw [chars_short l p i (by omega)]; simp

theorem bt_drop (l : List Bool) (i j : Nat) : bt (l.drop i) j = bt l (i + j) := by simp [bt, List.getD]
/-- The first bit that is 0. -/
theorem first_zero (s : List Bool) : ∃ d, d ≤ s.length ∧ (∀ j, j < d → bt s j = true) ∧ (d < s.length → bt s d = false) := by
  induction s with
  | nil => exact ⟨0, by simp, by simp, by simp⟩
  | cons b s ih =>
    cases b
    · exact ⟨0, by simp, by simp, by simp [bt]⟩
    · obtain ⟨d, h1, h2, h3⟩ := ih
      refine ⟨d + 1, by simpa using h1, ?_, ?_⟩
      · intro j hj
        rcases j with _ | j
        · simp [bt]
        · have := h2 j (by omega); simpa [bt] using this
      · intro h
        have := h3 (by simpa using h)
        simpa [bt] using this

theorem index_eq (s : List Bool) (n d : Nat) (r : Int) (A : Option Addr) (c B : Nat) (w : World) (hr : Rd w B 1 A n (s.map Value.bool)) (hn : n ≤ 1000000) (hd : d ≤ n) (h1 : ∀ j, j < d → bt s j = true) (h2 : d < n → bt s d = false) (he : (if d < n then (d : Int) else -1) = r) :
    Calls Try.prog 27 #[.slice A n c, .bool false] w fun e w' => e = .returned (.int .i64 r) ∧ w = w' := by
  have hl : s.length = n := by have := hr.1; simpa using this
  have hc : ∀ k, k < n → ∃ b off, A = some ⟨b, off, none⟩ ∧ w.cell? ⟨b, off + k, none⟩ = some (.bool (bt s k)) := fun k hk => by
    obtain ⟨b, off, e, _, hc⟩ := hr.2 (by omega)
    exact ⟨b, off, e, hc k _ (bt_some s k (by omega))⟩
  have HC := Lib.hid hc; have H1 := Lib.hid h1; have H2 := Lib.hid h2; have HE := Lib.hid he
  clear hc h1 h2 hr hl he
  go_enter Try.func27, Try.ntmps27
  go_wp2
  go_loop [5, 8] (fun x i => ∃ k : Nat, k ≤ d ∧ i = .int .i64 k) (fun _ i => n - (intOf i).toNat)
  case atStart => exact ⟨0, by omega, rfl⟩
  case round =>
    obtain ⟨k, hk, rfl⟩ := hrel
    by_cases hlt : k < n
    · obtain ⟨b, off, rfl, hcell⟩ := HC.out k hlt
      by_cases hkd : k < d
      · have hb := H1.out k hkd
        rw [hb] at hcell
        clear hb
        go_wp2
        exact ⟨⟨k + 1, by omega, by go_num⟩, by simp [intOf]; omega⟩
      · obtain rfl : k = d := by omega
        have hb := H2.out hlt
        rw [hb] at hcell
        clear hb
        go_wp2
        go_ret
        exact ⟨by rw [← HE.out, if_pos hlt]; rfl, rfl⟩
    · go_wp2
      go_ret
      exact ⟨by rw [← HE.out, if_neg (by omega)]; rfl, rfl⟩

theorem uevInfo : (Try.prog.info? 40).map (fun i => (i.zero, i.size, i.bytes)) = some (some (.agg #[.int .i64 0, .int .u8 0, .int .i64 0]), 3, 24) := by kernel_rfl

theorem chr_eq {l : List Bool} {p : Int} {i : Nat} {v : Nat} {f : Int} {o : Bool} (h : chrAt l p i = (v, f, o)) (hl : i + 11 ≤ l.length) (hb : bt l i = false) : chars l p i = ⟨i + 10, v, f⟩ :: chars l p (i + 11) := by
  rw [chars_take l p i hl hb, h]
/-- The bits of a character are read. -/
theorem Rd.chr {w : World} {B c i : Nat} {A : Option Addr} {l : List Bool} (hr : Rd w B 1 A l.length (l.map Value.bool)) (hl : i + 11 ≤ l.length) (hc : l.length ≤ c) :
    ∃ b off, A = some ⟨b, off, none⟩ ∧ b < B ∧ Rd w B 1 (some ⟨b, off + i, none⟩) 11 (((l.drop i).take 11).map Value.bool) := by
  obtain ⟨b, off, rfl, hb, _⟩ := hr.2 (by omega)
  refine ⟨b, off, rfl, hb, ?_⟩
  have h1 := (hr.cut (k := i) (cap := c) (by omega) hc).take (k := 11) (by omega)
  rw [if_neg (by omega)] at h1
  have e : (Option.map (fun x => x.add (i * 1)) (some (⟨b, off, none⟩ : Addr))) = some ⟨b, off + i, none⟩ := by simp [Addr.add]
  rw [e] at h1
  simpa [List.map_drop, List.map_take] using h1

theorem decode_eqT (l : List Bool) (n : Nat) (A : Option Addr) (c B : Nat) (p : Int) (b : Nat) (f : Int) (o : Bool) (w : World) (hr : Rd w B 1 A n (l.map Value.bool)) (hd : decode l p = (b, f, o)) :
    Calls Try.prog 28 #[.slice A n c, .int .i64 p] w fun e w' => e = .returned (.tuple #[.int .u8 b, .int .i64 f, .bool o]) ∧ ∃ n, w' = w.drewN n := by
  obtain rfl : l.length = n := by have := hr.1; simpa using this
  have h := decode_any l A c B p w hr
  rw [hd] at h
  exact h
set_option maxRecDepth 100000 in
set_option maxHeartbeats 1000000 in
theorem stream_any (l : List Bool) (A : Option Addr) (c B : Nat) (p : Int) (w : World) (hr : Rd w B 1 A l.length (l.map Value.bool)) (hlc : l.length ≤ c) (hc : c ≤ maxLen) (hn : l.length ≤ 100000) (hp : 0 ≤ p ∧ p ≤ 2) :
    Calls Try.prog 11 #[.slice A l.length c, .int .i64 p] w fun e w' =>
    ∃ v, e = .returned v ∧ w'.ownsRow w.heap.size 40 3 v (chars l p 0).length (uevCells (chars l p 0)) ∧ Below w.heap.size w w' := by
  have hd : decide (0 ≤ p ∧ p ≤ 2) = true := by simpa using hp
  unfold maxLen at hc
  have hr := hr.fits (by decide)
  have HR := Lib.hid hr
  have HP := Lib.hid hp
  clear hr hp
  go_enter Try.func11, Try.ntmps11
  go_wp2_with (go_at_call 25; refine (possible_any _ _).mono ?_; rintro e w' ⟨rfl, rfl⟩)
  go_loopw [5, 6] (fun v i wr => ∃ (k : Nat) (es : List UEv), k ≤ l.length ∧ i = .int .i64 k ∧ wr.ownsRow w.heap.size 40 3 v es.length (uevCells es) ∧ es ++ chars l p k = chars l p 0 ∧ Below w.heap.size w wr) (fun _ i _ => l.length - (intOf i).toNat)
  case atStart => exact ⟨0, [], by omega, rfl, World.ownsRow_nil _ _ _ _, rfl, Below.refl _ _⟩
  case round =>
    obtain ⟨k, es, hk, rfl, hown, hes, hbw⟩ := hrel
    have hesl : es.length ≤ 100000 := by
      have h1 := congrArg List.length hes
      rw [List.length_append] at h1
      have h2 := chars_len l p l.length 0 (by omega)
      omega
    have HES := Lib.hid hes; clear hes
    obtain ⟨d, d1, d2, d3⟩ := first_zero (l.drop k)
    have hdl : (l.drop k).length = l.length - k := List.length_drop
    rw [hdl] at d1 d3
    have hA : ∀ A', A' = (if c = k then A else A.map (·.add (k * 1))) → Rd wr w.heap.size 1 A' (l.length - k) ((l.drop k).map Value.bool) := fun A' e => by
      rw [e]; have h := (HR.out.below hbw (Nat.le_refl _)).cut hk hlc; rw [List.map_drop]; rw [Nat.mul_one] at h ⊢; exact h
    have HA := Lib.hid hA
    have HI := Lib.hid (fun (A' : Option Addr) (c' : Nat) (r : Int) (h : Rd wr w.heap.size 1 A' (l.length - k) ((l.drop k).map Value.bool)) (he : (if d < l.length - k then (d : Int) else -1) = r) => index_eq (l.drop k) (l.length - k) d r A' c' w.heap.size wr h (by omega) d1 d2 d3 he)
    have D2 := Lib.hid d2; have D3 := Lib.hid d3
    clear hA d2 d3 hdl
    by_cases hck : c = k
    · obtain rfl : k = l.length := by omega
      have hfin : es = chars l p 0 := by rw [← HES.out, chars_short l p _ (by omega), List.append_nil]
      have HF := Lib.hid hfin; clear hfin
      have h0 := HA.out A (by rw [if_pos hck])
      have h1 := HI.out A (c - l.length) (-1) h0 (by rw [if_neg (by omega)])
      rw [Nat.sub_self] at h1
      rw [hck, Nat.sub_self] at h1
      have H1 := Lib.hid h1
      clear h0 h1 HI HA
      subst hck
      go_wp2_with fail
      refine H1.out.mono ?_
      rintro e w' ⟨rfl, rfl⟩
      go_wp2
      go_ret
      rw [← HF.out]
      exact ⟨_, rfl, hown, hbw⟩
    · have h0 := HA.out (A.map (·.add k)) (by rw [if_neg hck, Nat.mul_one])
      by_cases hend : d = l.length - k
      · have hfin : es = chars l p 0 := by
          rw [← HES.out, chars_skips l p k d (fun j hj => by rw [← bt_drop]; exact D2.out j hj), chars_short l p _ (by omega), List.append_nil]
        have HF := Lib.hid hfin; clear hfin
        have H1 := Lib.hid (HI.out _ (c - k) (-1) h0 (by rw [if_neg (by omega)]))
        clear h0 HI HA hend d1
        go_wp2_with fail
        refine H1.out.mono ?_
        rintro e w' ⟨rfl, rfl⟩
        go_wp2
        go_ret
        rw [← HF.out]
        exact ⟨_, rfl, hown, hbw⟩
      · have hdlt : k + d < l.length := by omega
        have H1 := Lib.hid (HI.out _ (c - k) (d : Int) h0 (by rw [if_pos (by omega)]))
        have hsk := chars_skips l p k d (fun j hj => by rw [← bt_drop]; exact D2.out j hj)
        have hbit : bt l (k + d) = false := by rw [← bt_drop]; exact D3.out (by omega)
        by_cases hsh : l.length < k + d + 11
        · have hfin : es = chars l p 0 := by rw [← HES.out, hsk, chars_short l p _ (by omega), List.append_nil]
          have HF := Lib.hid hfin
          clear hfin hsk hbit h0 HI HA hend d1
          go_wp2_with fail
          refine H1.out.mono ?_
          rintro e w' ⟨rfl, rfl⟩
          go_wp2
          go_ret
          rw [← HF.out]
          exact ⟨_, rfl, hown, hbw⟩
        · obtain ⟨b, off, rfl, hb, hRc⟩ := (HR.out.below hbw (Nat.le_refl _)).chr (i := k + d) (by omega) hlc
          obtain ⟨v, f, o, hch⟩ : ∃ v f o, chrAt l p (k + d) = (v, f, o) := ⟨_, _, _, rfl⟩
          have hnx : es ++ [(UEv.mk (k + d + 10) v f)] ++ chars l p (k + d + 11) = chars l p 0 := by
            rw [← HES.out, hsk, chr_eq hch (by omega) hbit]; simp
          have HN := Lib.hid hnx
          have HD := Lib.hid (decode_eqT ((l.drop (k + d)).take 11) 11 (some ⟨b, off + (k + d), none⟩) (c - (k + d)) w.heap.size p v f o wr hRc hch)
          have ea : Option.map (fun x : Addr => x.add k) (some (⟨b, off, none⟩ : Addr)) = some ⟨b, off + k, none⟩ := by simp [Addr.add]
          have h1 := H1.out
          rw [ea] at h1
          have H2 := Lib.hid h1
          have hcc : c ≠ k + d := by omega
          clear hnx hsk hbit h0 HI HA hend d1 ea h1 H1
          go_wp2_with fail
          refine H2.out.mono ?_
          rintro e w' ⟨rfl, rfl⟩
          go_wp2_with fail
          refine HD.out.mono ?_
          rintro e w' ⟨rfl, m, rfl⟩
          go_wp2_with (at_builtin; refine wpList_app (.tmp 46) (.tmp 53) 37 w.heap.size 40 _ 3 24 _ es.length 1 1 (uevCells es) Try.underlying37 uevInfo rfl (by decide) rfl rfl rfl rfl hown rfl (by simp [Value.oneCell']) (by omega) (by omega) hbw.size ?_; intro v1 w1 hown1 hg1 hb1)
          have hown2 : w1.ownsRow w.heap.size 40 3 v1 (es ++ [(UEv.mk (k + d + 10) v f)]).length (uevCells (es ++ [(UEv.mk (k + d + 10) v f)])) := by
            rw [uevCells_snoc, List.length_append]
            have e : uevRow (UEv.mk (k + d + 10) v f) = [.int .i64 ((k : Int) + d + 11 - 1), .int .u8 v, .int .i64 f] := by simp [uevRow]; omega
            rw [e]; exact hown1
          exact ⟨⟨k + d + 11, es ++ [(UEv.mk (k + d + 10) v f)], by omega, by go_num, hown2, HN.out, (below_drewN hbw m).trans hb1⟩, by simp [intOf]; omega⟩
end Go.Proofs.Ytoliplochipoeaa

/- Contract of the reference's Decode (layer 7), and the example of the chapter. -/
set_option linter.unusedVariables false
set_option linter.unusedSimpArgs false
namespace Go.Proofs.Ytoliplochipoeaa
open Go.RowKit

theorem add_u8 (m k : Nat) (hk : k < 8) (hm : m < 2 ^ k) : IntKind.u8.wrap ((m : Int) + 2 ^ k % 256) = ((m + 2 ^ k : Nat) : Int) := by
  have : ∀ k : Fin 8, ∀ m : Fin 128, (m : Nat) < 2 ^ (k : Nat) → IntKind.u8.wrap (((m : Nat) : Int) + 2 ^ (k : Nat) % 256) = (((m : Nat) + 2 ^ (k : Nat) : Nat) : Int) := by decide +kernel
  exact this ⟨k, hk⟩ ⟨m, by have : 2 ^ k ≤ 2 ^ 7 := Nat.pow_le_pow_right (by decide) (by omega); omega⟩ hm

end Go.Proofs.Ytoliplochipoeaa

/- The example of chapter 7, and the laws UartRound, UartDecode, UartFlip, UartMismatch as contracts. -/
set_option linter.unusedVariables false
set_option linter.unusedSimpArgs false
namespace Go.Proofs.Ytoliplochipoeaa
open Go.RowKit

/-! ### The contracts with their results named, so that the walk sees no equation -/
theorem encode_eq (b : Nat) (hb : b ≤ 255) (p : Int) (l : List Bool) (n : Nat) (hl : encode b p = l) (hn : l.length = n) (w : World) : Calls Try.prog 10 #[.int .u8 b, .int .i64 p] w fun e w' =>
    ∃ A c, e = .returned (.slice A n c) ∧ w'.ownsRow w.heap.size 4 1 (.slice A n c) n (l.map Value.bool) ∧ Rd w' w'.heap.size 1 A n (l.map Value.bool) ∧ Below w.heap.size w w' := by
  subst hl; subst hn
  refine (encode_any b hb p w).mono ?_
  rintro e w' ⟨v, rfl, hown, hbel⟩
  obtain ⟨A, c, rfl, _, hR⟩ := own_form hown
  exact ⟨A, c, rfl, hown, hR, hbel⟩
theorem decode_eq (l : List Bool) (n : Nat) (A : Option Addr) (c B : Nat) (p : Int) (b : Nat) (f : Int) (o : Bool) (w : World) (hr : Rd w B 1 A n (l.map Value.bool)) (hd : decode l p = (b, f, o)) :
    Calls Try.prog 28 #[.slice A n c, .int .i64 p] w fun e w' => e = .returned (.tuple #[.int .u8 b, .int .i64 f, .bool o]) ∧ Below w.heap.size w w' := by
  have hn : l.length = n := by have := hr.1; simpa using this
  subst hn
  refine (decode_any l A c B p w hr).mono ?_
  rw [hd]
  rintro e w' ⟨rfl, m, rfl⟩
  exact ⟨rfl, below_drewN (Below.refl _ _) _⟩
theorem dec_enc (b : Nat) (hb : b ≤ 255) (p : Int) (hp : 0 ≤ p ∧ p ≤ 2) : decode (encode b p) p = (b, 0, true) := by
  have : ∀ b : Fin 256, decode (encode b 0) 0 = ((b : Nat), 0, true) ∧ decode (encode b 1) 1 = ((b : Nat), 0, true) ∧ decode (encode b 2) 2 = ((b : Nat), 0, true) := by decide +kernel
  have h := this ⟨b, by omega⟩
  rcases (show p = 0 ∨ p = 1 ∨ p = 2 by omega) with rfl | rfl | rfl
  · exact h.1
  · exact h.2.1
  · exact h.2.2
theorem enc_length (b : Nat) (p : Int) (hp : 0 ≤ p ∧ p ≤ 2) : (encode b p).length = 11 := by rw [encode, if_pos hp]; simp [bitsOf_length]

end Go.Proofs.Ytoliplochipoeaa

/- Arguments opened: a slice of whatever elements as rows of cells that are read; structs by value. -/
set_option linter.unusedVariables false
set_option linter.unusedSimpArgs false
namespace Go.Proofs.Ytoliplochipoeaa
open Go.ChangeShapes Go.WideShapes Go.RowKit Go.Deep Go.Joins

theorem addr_none {a : Addr} (h : a.spot = none) (j : Nat) : a.add j = ⟨a.block, a.off + j, none⟩ := by
  obtain ⟨b, o, s⟩ := a
  simp only at h
  subst h
  unfold Addr.add
  split <;> simp_all

theorem flatten_get {rows : List (List Value)} {size : Nat} (h : ∀ r ∈ rows, r.length = size) (i j : Nat) (hi : i < rows.length) (hj : j < size) : rows.flatten[i * size + j]? = (rows[i])[j]? := by
  induction rows generalizing i with
  | nil => simp at hi
  | cons r rs ih =>
    have hr : r.length = size := h r (by simp)
    rcases i with _ | i
    · simp only [List.flatten_cons, Nat.zero_mul, Nat.zero_add, List.getElem_cons_zero]
      rw [List.getElem?_append_left (by omega)]
    · simp only [List.flatten_cons, List.getElem_cons_succ]
      have e : (i + 1) * size + j = r.length + (i * size + j) := by rw [hr, Nat.succ_mul]; omega
      rw [e, List.getElem?_append_right (by omega), Nat.add_sub_cancel_left]
      exact ih (fun r hr => h r (by simp [hr])) i (by simpa using hi)
theorem flatten_length {rows : List (List Value)} {size : Nat} (h : ∀ r ∈ rows, r.length = size) : rows.flatten.length = rows.length * size := by
  induction rows with
  | nil => simp
  | cons r rs ih =>
    simp only [List.flatten_cons, List.length_append, List.length_cons]
    rw [ih (fun r hr => h r (by simp [hr])), h r (by simp), Nat.succ_mul, Nat.add_comm]

section
variable {H : Type} {enc : TypeId × Value → H} {P : Program} {w : World} {base : Nat} {spare : Nat → Bool} {held : Bool}
/-- A slice, however its elements read: E says of an element's cells what its reading gives. -/
theorem trod_rows {t e : TypeId} {size fuel : Nat} {cs : List Value} {y : DataW H × List MemPlace} (ht : P.underlying t = some (.slice e)) (hC : P.cellsOf e = size) (hs : 0 < size) (E : List Value → Prop)
    (hE : ∀ n cs y, DataW.trod enc P w base spare held n e cs = some y → E cs) (h : DataW.trod enc P w base spare held fuel t cs = some y) :
    ∃ (A : Option Addr) (n c : Nat) (rows : List (List Value)), cs = [.slice A n c] ∧ n ≤ c ∧ c ≤ maxLen ∧ rows.length = n ∧ (∀ r ∈ rows, r.length = size ∧ E r) ∧ Rd w w.heap.size size A n rows.flatten := by
  rcases open_slice ht h with ⟨rfl, _⟩ | ⟨a, len, cap, m, n, D, Pl, rfl, hb, hl, hm, hmm, _, hx⟩
  · exact ⟨none, 0, 0, [], rfl, Nat.le_refl _, by simp, rfl, by simp, Rd.nil_⟩
  · have hlm : len ≤ m := by rw [hmm]; split <;> omega
    obtain ⟨V, hV⟩ := choose_lt (α := List Value) (n := len) (p := fun i r => r.length = size ∧ E r ∧ ∀ j, j < size → w.cell? (a.add (i * size + j)) = r[j]?) (fun i hi => by
      obtain ⟨cs', h1, h2⟩ := hx i (by omega)
      rw [hC] at h1
      obtain ⟨_, hlen, hcell⟩ := World.cells?_some h1
      refine ⟨cs', hlen, hE _ _ _ h2, fun j hj => ?_⟩
      rw [← hcell j hj, Go.Deep.add_add])
    have hrow : ∀ r ∈ (List.range len).map V, r.length = size := by
      intro r hr
      obtain ⟨i, hi, rfl⟩ := List.mem_map.1 hr
      exact (hV i (by simpa using hi)).1
    refine ⟨some a, len, cap, (List.range len).map V, rfl, hl, hm, by simp, ?_, ?_, ?_⟩
    · intro r hr
      obtain ⟨i, hi, rfl⟩ := List.mem_map.1 hr
      have := hV i (by simpa using hi)
      exact ⟨this.1, this.2.1⟩
    · rw [flatten_length hrow]; simp
    · intro hn
      have hc0 := (hV 0 hn).2.2 0 hs
      have hl0 := (hV 0 hn).1
      rw [List.getElem?_eq_getElem (by omega)] at hc0
      have hsp : a.spot = none := by
        have := World.cell?_spot hc0
        simpa [Addr.add] using this
      refine ⟨a.block, a.off, ?_, ?_, ?_⟩
      · obtain ⟨b, o, s⟩ := a; simp only at hsp; subst hsp; rfl
      · have := World.block_lt_of_cell? _ _ hc0
        rwa [addr_none hsp] at this
      · intro j u hu
        have hj : j < len * size := by
          have := (List.getElem?_eq_some_iff.1 hu).1
          rw [flatten_length hrow] at this
          simpa using this
        have e : j = j / size * size + j % size := by rw [Nat.mul_comm]; exact (Nat.div_add_mod j size).symm
        have hq : j / size < len := Nat.div_lt_of_lt_mul (by rwa [Nat.mul_comm] at hj)
        have hr : j % size < size := Nat.mod_lt _ hs
        have h1 := (hV (j / size) hq).2.2 (j % size) hr
        rw [← e, addr_none hsp] at h1
        rw [h1]
        have h2 := flatten_get hrow (j / size) (j % size) (by simpa using hq) hr
        rw [← e] at h2
        rw [← hu, h2]
        simp

/-- Of rows that are each some x written out: the list of the x. -/
theorem rows_map {α : Type} (f : α → List Value) (R : α → Prop) : ∀ rows : List (List Value), (∀ r ∈ rows, ∃ x, r = f x ∧ R x) → ∃ xs : List α, rows = xs.map f ∧ ∀ x ∈ xs, R x := by
  intro rows
  induction rows with
  | nil => intro _; exact ⟨[], rfl, by simp⟩
  | cons r rs ih =>
    intro h
    obtain ⟨x, rfl, hx⟩ := h r (by simp)
    obtain ⟨xs, rfl, hxs⟩ := ih (fun r hr => h r (by simp [hr]))
    exact ⟨x :: xs, rfl, fun y hy => (List.mem_cons.1 hy).elim (fun e => e ▸ hx) (hxs y)⟩

/-- A slice whose elements are each some x written out. -/
theorem open_list {α : Type} (f : α → List Value) (R : α → Prop) {r : Reach} {b0 : Nat} {t e : TypeId} {size : Nat} {v : Value} {d : DataW H} {p : List MemPlace} (ht : P.underlying t = some (.slice e)) (hC : P.cellsOf e = size) (hs : 0 < size)
    (hE : ∀ n cs y, DataW.trod enc P w base spare held n e cs = some y → ∃ x, cs = f x ∧ R x) (hv : Value.okWide P w r b0 t v) (h : DataW.Trod enc P w base spare held t v d p) :
    ∃ A c, ∃ xs : List α, v = .slice A xs.length c ∧ xs.length ≤ c ∧ c ≤ maxLen ∧ (∀ x ∈ xs, R x) ∧ (∀ x ∈ xs, (f x).length = size) ∧ Rd w w.heap.size size A xs.length (xs.map f).flatten := by
  obtain ⟨a0, len, cap, rfl⟩ := okWide_slice ht hv
  obtain ⟨fuel, hf⟩ := h
  obtain ⟨A, n, c, rows, hcs, hl, hm, hn, hrows, hR⟩ := trod_rows ht hC hs (fun cs => ∃ x, cs = f x ∧ R x) hE hf
  simp only [Value.cells, List.cons.injEq, Value.slice.injEq, and_true] at hcs
  obtain ⟨rfl, rfl, rfl⟩ := hcs
  obtain ⟨xs, rfl, hxs⟩ := rows_map f R rows (fun r hr => (hrows r hr).2)
  simp only [List.length_map] at hn
  subst hn
  exact ⟨_, _, xs, rfl, hl, hm, hxs, fun x hx => (hrows _ (List.mem_map_of_mem hx)).1, hR⟩

/-- A struct, field by field. -/
theorem struct_field {t : TypeId} {fs : Array Field} {fuel : Nat} {cs : List Value} {x : DataW H × List MemPlace} (hs : P.underlying t = some (.struct fs)) (h : DataW.trod enc P w base spare held fuel t cs = some x) :
    cs.length = P.cellsOf t ∧ ∀ (i : Nat) (f : Field), fs[i]? = some f → ∃ n y, DataW.trod enc P w base spare held n f.type (List.take (P.cellsOf f.type) (List.drop f.offset cs)) = some y := by
  obtain ⟨xs, n, _, _, hl, hxl, hf⟩ := DataW.trod_struct hs h
  refine ⟨hl, fun i f hi => ?_⟩
  have hlt : i < fs.size := (Array.getElem?_eq_some_iff.1 hi).1
  exact ⟨n, xs[i]'(by omega), (hf i f hi).trans (List.getElem?_eq_getElem (by omega))⟩
theorem trod_list {α : Type} (f : α → List Value) (R : α → Prop) {t e : TypeId} {size fuel : Nat} {cs : List Value} {y : DataW H × List MemPlace} (ht : P.underlying t = some (.slice e)) (hC : P.cellsOf e = size) (hs : 0 < size)
    (hE : ∀ n cs y, DataW.trod enc P w base spare held n e cs = some y → ∃ x, cs = f x ∧ R x) (h : DataW.trod enc P w base spare held fuel t cs = some y) :
    ∃ (A : Option Addr) (c : Nat) (xs : List α), cs = [.slice A xs.length c] ∧ xs.length ≤ c ∧ c ≤ maxLen ∧ (∀ x ∈ xs, R x) ∧ Rd w w.heap.size size A xs.length (xs.map f).flatten := by
  obtain ⟨A, n, c, rows, hcs, hl, hm, hn, hrows, hR⟩ := trod_rows ht hC hs (fun cs => ∃ x, cs = f x ∧ R x) hE h
  obtain ⟨xs, rfl, hxs⟩ := rows_map f R rows (fun r hr => (hrows r hr).2)
  simp only [List.length_map] at hn
  subst hn
  exact ⟨A, c, xs, hcs, hl, hm, hxs, hR⟩

theorem trod_bool {t : TypeId} {n : Nat} {cs : List Value} {y : DataW H × List MemPlace} (ht : P.underlying t = some .bool) (h : DataW.trod enc P w base spare held n t cs = some y) : ∃ x : Bool, cs = [.bool x] ∧ True := by
  rcases n with _ | n
  · simp [DataW.trod] at h
  · unfold DataW.trod at h
    rw [ht] at h
    match cs, h with
    | [.bool b], _ => exact ⟨b, rfl, trivial⟩
theorem trod_intk {t : TypeId} {k : IntKind} {n : Nat} {cs : List Value} {y : DataW H × List MemPlace} (ht : P.underlying t = some (.int k)) (h : DataW.trod enc P w base spare held n t cs = some y) : ∃ x : Int, cs = [.int k x] ∧ (Lit.int k x).wf = true := by
  rcases n with _ | n
  · simp [DataW.trod] at h
  · unfold DataW.trod at h
    rw [ht] at h
    match cs, h with
    | [.int k' b], h =>
      simp only at h
      split at h
      · rename_i hh; obtain ⟨rfl, hw⟩ := hh; exact ⟨b, rfl, hw⟩
      · cases h
end
theorem flatten_one {α : Type} (f : α → Value) (xs : List α) : (xs.map fun x => [f x]).flatten = xs.map f := by induction xs <;> simp_all

end Go.Proofs.Ytoliplochipoeaa

/- The laws UartDecode, UartMismatch, UartFlip as contracts. -/
set_option linter.unusedVariables false
set_option linter.unusedSimpArgs false
namespace Go.Proofs.Ytoliplochipoeaa
open Go.RowKit

theorem mism (b : Nat) (hb : b ≤ 255) : decode (encode b 1) 2 = (b, 1, true) ∧ decode (encode b 2) 1 = (b, 1, true) := by
  have : ∀ b : Fin 256, decode (encode b 1) 2 = ((b : Nat), 1, true) ∧ decode (encode b 2) 1 = ((b : Nat), 1, true) := by decide +kernel
  exact this ⟨b, by omega⟩
end Go.Proofs.Ytoliplochipoeaa

/- Layer 7: the reference's Stream; the law UartStream. -/
set_option linter.unusedVariables false
set_option linter.unusedSimpArgs false
namespace Go.Proofs.Ytoliplochipoeaa
open Go.RowKit

def streamL (l : List Bool) (p : Int) : List UEv := if 0 ≤ p ∧ p ≤ 2 then chars l p 0 else []
theorem stream_eq (l : List Bool) (n : Nat) (es : List UEv) (m : Nat) (A : Option Addr) (c B : Nat) (p : Int) (w : World) (hr : Rd w B 1 A n (l.map Value.bool)) (hlc : n ≤ c) (hc : c ≤ maxLen) (hn : n ≤ 100000) (he : streamL l p = es) (hm : es.length = m) :
    Calls Try.prog 11 #[.slice A n c, .int .i64 p] w fun e w' =>
    ∃ A c, e = .returned (.slice A m c) ∧ w'.ownsRow w.heap.size 40 3 (.slice A m c) m (uevCells es) ∧ Below w.heap.size w w' := by
  obtain rfl : l.length = n := by have := hr.1; simpa using this
  subst hm
  by_cases hp : 0 ≤ p ∧ p ≤ 2
  · rw [streamL, if_pos hp] at he
    subst he
    refine (stream_any l A c B p w hr hlc hc hn hp).mono ?_
    rintro e w' ⟨v, rfl, hown, hb⟩
    obtain ⟨A, c, rfl, _, _⟩ := own_form hown
    exact ⟨A, c, rfl, hown, hb⟩
  · rw [streamL, if_neg hp] at he
    subst he
    have hd : decide (0 ≤ p ∧ p ≤ 2) = false := by simpa using hp
    clear hp hr hlc hc hn
    go_enter Try.func11, Try.ntmps11
    go_wp2_with (go_at_call 25; refine (possible_any _ _).mono ?_; rintro e w' ⟨rfl, rfl⟩)
    go_ret
    exact ⟨none, 0, rfl, World.ownsRow_nil _ _ _ _, Below.refl _ _⟩
theorem uevCells_get (l : List UEv) (k : Nat) (hk : k < l.length) : (uevCells l)[k * 3]? = some (.int .i64 l[k].at_) ∧ (uevCells l)[k * 3 + 1]? = some (.int .u8 l[k].val) ∧ (uevCells l)[k * 3 + 2]? = some (.int .i64 l[k].fl) := by
  have h : ∀ r ∈ l.map uevRow, r.length = 3 := by intro r hr; obtain ⟨o, _, rfl⟩ := List.mem_map.1 hr; rfl
  have g := fun j (hj : j < 3) => flatten_get h k j (by simpa using hk) hj
  refine ⟨?_, ?_, ?_⟩
  · have := g 0 (by omega); simpa [uevCells, uevRow] using this
  · have := g 1 (by omega); simpa [uevCells, uevRow] using this
  · have := g 2 (by omega); simpa [uevCells, uevRow] using this
/-- The cells of an event in a row of the call's own. -/
theorem uev_cells {w : World} {B n : Nat} {A : Option Addr} {l : List UEv} (h : Rd w B 3 A n (uevCells l)) (k : Nat) (hk : k < l.length) (hkn : k < n) :
    ∃ b off, A = some ⟨b, off, none⟩ ∧ w.cell? ⟨b, off + k * 3, none⟩ = some (.int .i64 l[k].at_) ∧ w.cell? ⟨b, off + k * 3 + 1, none⟩ = some (.int .u8 l[k].val) ∧ w.cell? ⟨b, off + k * 3 + 2, none⟩ = some (.int .i64 l[k].fl) := by
  obtain ⟨b, off, e, _, hc⟩ := h.2 (by omega)
  obtain ⟨h0, h1, h2⟩ := uevCells_get l k hk
  exact ⟨b, off, e, hc _ _ h0, hc _ _ h1, hc _ _ h2⟩

end Go.Proofs.Ytoliplochipoeaa

/- Contracts of the statements' helpers: modscanmake.Mod, Bytes. -/
set_option linter.unusedVariables false
set_option linter.unusedSimpArgs false
namespace Go.Proofs.Ytoliplochipoeaa
open Go.RowKit

theorem tmod_lt (x n : Int) (hn : 1 ≤ n) : -n < x.tmod n ∧ x.tmod n < n := by
  have h1 := Int.tmod_lt_of_pos x (by omega : 0 < n)
  have h2 : -n < x.tmod n := by
    have := Int.neg_tmod x n
    have h3 := Int.tmod_lt_of_pos (-x) (by omega : 0 < n)
    omega
  exact ⟨h2, h1⟩
theorem tmod_mod (x n : Int) : (x.tmod n + n) % n = x % n := by
  have e : x.tmod n + n = x + n * (1 - x.tdiv n) := by
    have := Int.mul_tdiv_add_tmod x n
    rw [Int.mul_sub]; omega
  rw [e, Int.add_mul_emod_self_left]

theorem mod_any (x n : Int) (hn : 1 ≤ n) (hn2 : n ≤ 1000000000) (w : World) : Calls Try.prog 6 #[.int .i64 x, .int .i64 n] w fun e w' => e = .returned (.int .i64 (x % n)) ∧ w = w' := by
  have h := tmod_lt x n hn
  have h1 := h.1
  have h2 := h.2
  have hne : (n == 0) = false := by simp; omega
  have hm := tmod_mod x n
  have HM := Lib.hid hm
  clear h hm
  go_enter Try.func6, Try.ntmps6
  go_wp2
  go_ret
  exact ⟨by rw [← HM.out]; rfl, rfl⟩

end Go.Proofs.Ytoliplochipoeaa


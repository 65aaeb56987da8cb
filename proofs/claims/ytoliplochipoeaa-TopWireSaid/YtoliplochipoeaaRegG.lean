/- Drawn regions: a start with blocks that are written; append as one operation. -/
import Derived.Test.YtoliplochipoeaaRegX
import Derived.Test.YtoliplochipoeaaLib4
set_option linter.unusedVariables false
set_option linter.unusedSimpArgs false
namespace Go.Proofs.Ytoliplochipoeaa
open Go.RowKit

section
variable {P : Program} {ops : Array Oper} {Q : Exit → Act → World → Prop}
theorem rgx_start_x {X : Nat → Prop} {id : Nat} {a : Act} {w : World} (hm : P.follows .mixedOrders = true) (h : RgX P X ops Q ops.size (Array.replicate ops.size false) a w.drew) : (Code.region id ops true).wp P Q a w :=
  rgs_start _ hm h
/-- 'append(v, src...)' in a drawn region. -/
theorem wp_appN {w : World} {o : Oper} {a : Act} {K : Act → World → Prop} {R : Exit → Act → World → Prop}
    (s x : Operand) (t : TypeId) (base : Nat) (e : TypeId) (z : Value) (size bytes : Nat) (v : Value) (n : Nat) (xs : List Value) (A : Addr) (m c : Nat) (news : List Value)
    (ht : P.underlying t = some (.slice e)) (hE : (P.info? e).map (fun i => (i.zero, i.size, i.bytes)) = some (some z, size, bytes)) (hzs : z.cells.size = size) (hsz : 0 < size)
    (ho : o.op = .call { callee := .builtin .append, args := #[s, x], argTypes := #[t, t] })
    (hs : a.eval s = v) (hx : a.eval x = .slice (some A) m c) (hown : w.ownsRow base e size v n xs) (hl : news.length = m * size) (hnews : ∀ j u, news[j]? = some u → w.cell? (A.add j) = some u) (h1 : ∀ u ∈ news, u.oneCell' = true)
    (h63 : n + m ≤ 1000000) (hby : bytes ≤ 1000) (hbase : base ≤ w.heap.size)
    (h : ∀ v' w', w'.ownsRow base e size v' (n + m) (xs ++ news) → w.grownBy w' v.ownBlock → OwnNext w v v' → Below base w w' → K (a.put o.dst v') w') :
    o.wp P a w K R := by
  obtain ⟨i, hi, hz, hsize, hbytes⟩ := info_parts hE
  obtain ⟨v', w', hrun, h2, h3, h4⟩ := run_append_own2 (P := P) w base t o.type e i z size bytes ht hi hz hsize hbytes hzs hsz v n xs hown A m c news hl hnews h1 (by simp only [maxLen]; omega) (Nat.le_trans (Nat.mul_le_mul h63 hby) (by decide)) hbase
  unfold Oper.wp execOp
  simp only [ho, resolve, invoke, builtin, Sem.run_bind, Sem.run_pure, Result.andThen_ok, List.map_toArray, List.map_cons, List.map_nil, hs, hx, hrun]
  exact h v' w' h2 h3 h4 ((Below.refl base w).grown h3 hbase (fun k hk => (hown.lt k hk).1))
theorem wp_appR {w : World} {o : Oper} {a : Act} {K : Act → World → Prop} {R : Exit → Act → World → Prop}
    (s x : Operand) (t : TypeId) (base : Nat) (e : TypeId) (z : Value) (size bytes : Nat) (v : Value) (n : Nat) (xs : List Value) (B : Nat) (A : Addr) (m c : Nat) (news : List Value)
    (ht : P.underlying t = some (.slice e)) (hE : (P.info? e).map (fun i => (i.zero, i.size, i.bytes)) = some (some z, size, bytes)) (hzs : z.cells.size = size) (hsz : 0 < size)
    (ho : o.op = .call { callee := .builtin .append, args := #[s, x], argTypes := #[t, t] })
    (hs : a.eval s = v) (hx : a.eval x = .slice (some A) m c) (hown : w.ownsRow base e size v n xs) (hr : Rd w B size (some A) m news) (h1 : ∀ u ∈ news, u.oneCell' = true)
    (h63 : n + m ≤ 1000000) (hby : bytes ≤ 1000) (hbase : base ≤ w.heap.size)
    (h : ∀ v' w', w'.ownsRow base e size v' (n + m) (xs ++ news) → w.grownBy w' v.ownBlock → OwnNext w v v' → Below base w w' → K (a.put o.dst v') w') :
    o.wp P a w K R := by
  refine wp_appN s x t base e z size bytes v n xs A m c news ht hE hzs hsz ho hs hx hown hr.1 ?_ h1 h63 hby hbase h
  intro j u hu
  rcases Nat.eq_zero_or_pos m with h0 | h0
  · subst h0
    have hn : news = [] := List.eq_nil_of_length_eq_zero (by simpa using hr.1)
    subst hn
    simp at hu
  · obtain ⟨b, off, h, _, hc⟩ := hr.2 h0
    injection h with h
    subst h
    have e1 : (⟨b, off, none⟩ : Addr).add j = ⟨b, off + j, none⟩ := by unfold Addr.add; split <;> simp_all
    rw [e1]
    exact hc j u hu
end
theorem Mem.of_grown {X : Nat → Prop} {w w' : World} {row : Option Nat} (h : w.grownBy w' row) (hr : ∀ b, row = some b → X b) : Mem X w w' :=
  ⟨h.size, fun b hb hn => h.block b hb (fun e => hn (hr b e.symm))⟩
end Go.Proofs.Ytoliplochipoeaa

/- Layer 18: the law BudgetConfig: a configuration that is loaded as one value. -/
import Derived.Test.YtjpljjhnjholdaaBudU
import Derived.Test.YtjpljjhnjholdaaOpenCB
import Derived.Test.YtjpljjhnjholdaaBudL
import Derived.Test.YtjpljjhnjholdaaRegQ
set_option linter.unusedVariables false
set_option linter.unusedSimpArgs false
namespace Go.Proofs.Ytjpljjhnjholdaa
open Go.RowKit

/-- The configuration in block b is loaded as V. -/
def LdC (b : Nat) (V : Value) (w : World) : Prop := (Instr.loadAt 33 (.pointer (some ⟨b, 0, none⟩))).run Try.prog w = .ok V w
theorem ld_run {b : Nat} {V : Value} {w : World} {o : Oper} {ev : Operand → Value} {p : Operand} (h : LdC b V w) (ho : o.op = .load 33 p) (hp : ev p = .pointer (some ⟨b, 0, none⟩)) : (execOp ev o).run Try.prog w = .ok (.value V) w := by
  unfold LdC at h
  unfold execOp
  simp only [ho, hp, Sem.run_bind, h, Result.andThen_ok, Sem.run_pure]
set_option maxRecDepth 100000 in
theorem ld_of (x : Cf) (A : Option Addr) (n c b : Nat) (w : World) (h : ∀ i, w.cell? ⟨b, i, none⟩ = (#[.slice A n c, .int .i64 x.fi, .int .i64 x.la, .int .i64 x.re, .int .i64 x.ti, .int .i64 x.de, .int .i64 x.w0f, .int .i64 x.w0c, .int .i64 x.w1f, .int .i64 x.w1c, .int .i64 x.w2f, .int .i64 x.w2c, .int .i64 x.w3f, .int .i64 x.w3c, .int .i64 x.ev, .int .i64 x.st] : Array Value)[i]?) : LdC b (cfV A n c x) w := by
  unfold LdC
  go_simp <;> with_reducible rfl
end Go.Proofs.Ytjpljjhnjholdaa

/- A reply, put cell by cell. -/
import Derived.Test.YtipcnpnfdoainaaBox
set_option linter.unusedVariables false
set_option linter.unusedSimpArgs false
namespace Go.Proofs.Ytipcnpnfdoainaa
open Go.RowKit

theorem box_put8 {w : World} {b : Nat} {c0 c1 c2 c3 c4 c5 c6 c7 : Value} (h : Box w b #[c0, c1, c2, c3, c4, c5, c6, c7]) (v0 v1 v2 v3 v4 v5 v6 v7 : Value) : Box ((((((((w.setCell ⟨b, 0, none⟩ v0).setCell ⟨b, 1, none⟩ v1).setCell ⟨b, 2, none⟩ v2).setCell ⟨b, 3, none⟩ v3).setCell ⟨b, 4, none⟩ v4).setCell ⟨b, 5, none⟩ v5).setCell ⟨b, 6, none⟩ v6).setCell ⟨b, 7, none⟩ v7) b #[v0, v1, v2, v3, v4, v5, v6, v7] :=
  ((((((((h.set (k := 0) (v := v0) (cs' := #[v0, c1, c2, c3, c4, c5, c6, c7]) (by simp) rfl).set (k := 1) (v := v1) (cs' := #[v0, v1, c2, c3, c4, c5, c6, c7]) (by simp) rfl).set (k := 2) (v := v2) (cs' := #[v0, v1, v2, c3, c4, c5, c6, c7]) (by simp) rfl).set (k := 3) (v := v3) (cs' := #[v0, v1, v2, v3, c4, c5, c6, c7]) (by simp) rfl).set (k := 4) (v := v4) (cs' := #[v0, v1, v2, v3, v4, c5, c6, c7]) (by simp) rfl).set (k := 5) (v := v5) (cs' := #[v0, v1, v2, v3, v4, v5, c6, c7]) (by simp) rfl).set (k := 6) (v := v6) (cs' := #[v0, v1, v2, v3, v4, v5, v6, c7]) (by simp) rfl).set (k := 7) (v := v7) (cs' := #[v0, v1, v2, v3, v4, v5, v6, v7]) (by simp) rfl)
theorem below_put8 {w0 w : World} {B b : Nat} (h : Below B w0 w) (hb : B ≤ b) (v0 v1 v2 v3 v4 v5 v6 v7 : Value) : Below B w0 ((((((((w.setCell ⟨b, 0, none⟩ v0).setCell ⟨b, 1, none⟩ v1).setCell ⟨b, 2, none⟩ v2).setCell ⟨b, 3, none⟩ v3).setCell ⟨b, 4, none⟩ v4).setCell ⟨b, 5, none⟩ v5).setCell ⟨b, 6, none⟩ v6).setCell ⟨b, 7, none⟩ v7) :=
  ((((((((h.setCell (p := ⟨b, 0, none⟩) hb v0).setCell (p := ⟨b, 1, none⟩) hb v1).setCell (p := ⟨b, 2, none⟩) hb v2).setCell (p := ⟨b, 3, none⟩) hb v3).setCell (p := ⟨b, 4, none⟩) hb v4).setCell (p := ⟨b, 5, none⟩) hb v5).setCell (p := ⟨b, 6, none⟩) hb v6).setCell (p := ⟨b, 7, none⟩) hb v7)
end Go.Proofs.Ytipcnpnfdoainaa

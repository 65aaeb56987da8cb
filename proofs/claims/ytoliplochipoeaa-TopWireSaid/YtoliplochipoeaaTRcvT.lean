/- The receiver: take (gives the frame away). -/
import Derived.Test.YtoliplochipoeaaTRcvN
import Derived.Test.YtoliplochipoeaaRegG
import Derived.Deep.DeepCutAuto
set_option linter.unusedVariables false
set_option linter.unusedSimpArgs false
namespace Go.Proofs.Ytoliplochipoeaa
open Go.RowKit

abbrev iptr (g : Nat) : Value := .pointer (some ⟨g, 0, none⟩)
abbrev frmA (bs : Value) (fi la fl : Int) : Array Value := #[bs, .int .i64 fi, .int .i64 la, .int .i64 fl]
/-- A frame is written over the receiver's. -/
theorem box_put_frame {w : World} {g : Nat} {ch t15 t35 : Int} {bs : Value} {fi la fl : Int} {ac : Bool} {lt id_ : Int} (h : Box w g (rcvCells ch t15 t35 bs fi la fl ac lt id_)) (bs' : Value) (fi' la' fl' : Int) :
    Box ((((w.setCell ⟨g, 3, none⟩ bs').setCell ⟨g, 4, none⟩ (.int .i64 fi')).setCell ⟨g, 5, none⟩ (.int .i64 la')).setCell ⟨g, 6, none⟩ (.int .i64 fl')) g (rcvCells ch t15 t35 bs' fi' la' fl' ac lt id_) :=
  (((h.set (k := 3) (v := bs') (cs' := rcvCells ch t15 t35 bs' fi la fl ac lt id_) (by simp [rcvCells]) rfl).set (k := 4) (v := .int .i64 fi') (cs' := rcvCells ch t15 t35 bs' fi' la fl ac lt id_) (by simp [rcvCells]) rfl).set (k := 5) (v := .int .i64 la') (cs' := rcvCells ch t15 t35 bs' fi' la' fl ac lt id_) (by simp [rcvCells]) rfl).set (k := 6) (v := .int .i64 fl') (cs' := rcvCells ch t15 t35 bs' fi' la' fl' ac lt id_) (by simp [rcvCells]) rfl
abbrev zfrm : Obj := .cells #[.slice none 0 0, .int .i64 0, .int .i64 0, .int .i64 0] 46
set_option maxHeartbeats 1000000 in
theorem take_any (ch t15 t35 : Int) (A : Option Addr) (n c : Nat) (fi la fl : Int) (ac : Bool) (lt id_ : Int) (g : Nat) (w : World) (hB : Box w g (rcvCells ch t15 t35 (.slice A n c) fi la fl ac lt id_)) :
    Calls Try.prog 33 #[iptr g] w fun e w' => e = .returned (.agg #[.slice A n c, .int .i64 fi, .int .i64 la, .int .i64 fl]) ∧ Box w' g (rcvCells ch t15 t35 (.slice none 0 0) 0 0 0 false lt id_) ∧ w.grownBy w' (some g) := by
  have hgl := Lib.hid hB.2.2
  have HB0 := Lib.hid (hB.alloc' (.cells #[.slice none 0 0, .int .i64 0, .int .i64 0, .int .i64 0] 46))
  obtain ⟨q, z, l⟩ := HB0.out
  unfold rcvCells at q
  go_enter Try.func33, Try.ntmps33
  go_upto_region 2 with fail
  obtain ⟨W2, hW2⟩ : ∃ W, (w.alloc (.cells #[.slice none 0 0, .int .i64 0, .int .i64 0, .int .i64 0] 46)).alloc (.cells #[.slice A n c, .int .i64 fi, .int .i64 la, .int .i64 fl] 46) = W := ⟨_, rfl⟩
  have HBr := Lib.hid (show Box W2 (w.heap.size + 1) #[.slice A n c, .int .i64 fi, .int .i64 la, .int .i64 fl] by rw [← hW2]; have := Box.alloc_ (w := w.alloc (.cells #[.slice none 0 0, .int .i64 0, .int .i64 0, .int .i64 0] 46)) (cs := #[.slice A n c, .int .i64 fi, .int .i64 la, .int .i64 fl]) (e := 46); simpa using this)
  have HBz := Lib.hid (show Box W2 w.heap.size #[.slice none 0 0, .int .i64 0, .int .i64 0, .int .i64 0] by rw [← hW2]; exact Box.alloc' Box.alloc_ _)
  have HB2 := Lib.hid (show Box W2 g _ by rw [← hW2]; exact HB0.out.alloc' _)
  have HG2 := Lib.hid (show w.grownBy W2 (some g) by rw [← hW2]; exact one_alloc (one_alloc (one_refl w g) _) _)
  rw [hW2]
  obtain ⟨b2, hb2⟩ : ∃ b, w.heap.size = b := ⟨_, rfl⟩
  have HBN := Lib.hid (show w.heap.size ≤ b2 by omega)
  have HNE := Lib.hid (show g ≠ b2 ∧ g ≠ b2 + 1 by have := hgl.out; omega)
  rw [hb2] at HBr HBz ⊢
  clear hW2 q z l hB HB0 hb2 hgl
  obtain ⟨q, z, l⟩ := HB2.out
  unfold rcvCells at q
  have HB3 := Lib.hid ((box_put_frame HB2.out (.slice none 0 0) 0 0 0).set (k := 7) (v := .bool false) (cs' := rcvCells ch t15 t35 (.slice none 0 0) 0 0 0 false lt id_) (by simp [rcvCells]) rfl)
  have HG3 := Lib.hid (one_set (one_set (one_set (one_set (one_set (one_refl W2 g) 3 (.slice none 0 0)) 4 (.int .i64 0)) 5 (.int .i64 0)) 6 (.int .i64 0)) 7 (.bool false))
  go_upto_region 3 with fail
  obtain ⟨W3, hW3⟩ : ∃ W, (((((W2.setCell ⟨g, 3, none⟩ (.slice none 0 0)).setCell ⟨g, 4, none⟩ (.int .i64 0)).setCell ⟨g, 5, none⟩ (.int .i64 0)).setCell ⟨g, 6, none⟩ (.int .i64 0)).setCell ⟨g, 7, none⟩ (.bool false)) = W := ⟨_, rfl⟩
  rw [hW3] at HB3 HG3 ⊢
  have HBr3 := Lib.hid (HBr.out.grown HG3.out (Ne.symm HNE.out.2))
  have HBz3 := Lib.hid (HBz.out.grown HG3.out (Ne.symm HNE.out.1))
  have hG4 : w.grownBy W3 (some g) := by rw [← hW3]; exact one_set (one_set (one_set (one_set (one_set HG2.out 3 _) 4 _) 5 _) 6 _) 7 _
  have HBF := Lib.hid ((((HBz3.out.set (k := 0) (v := .slice A n c) (cs' := #[.slice A n c, .int .i64 0, .int .i64 0, .int .i64 0]) (by simp) rfl).set (k := 1) (v := .int .i64 fi) (cs' := #[.slice A n c, .int .i64 fi, .int .i64 0, .int .i64 0]) (by simp) rfl).set (k := 2) (v := .int .i64 la) (cs' := #[.slice A n c, .int .i64 fi, .int .i64 la, .int .i64 0]) (by simp) rfl).set (k := 3) (v := .int .i64 fl) (cs' := #[.slice A n c, .int .i64 fi, .int .i64 la, .int .i64 fl]) (by simp) rfl)
  have HGF := Lib.hid (one_set_new (one_set_new (one_set_new (one_set_new hG4 HBN.out 0 (.slice A n c)) HBN.out 1 (.int .i64 fi)) HBN.out 2 (.int .i64 la)) HBN.out 3 (.int .i64 fl))
  have HGZ := Lib.hid (one_set (one_set (one_set (one_set (one_refl W3 b2) 0 (.slice A n c)) 1 (.int .i64 fi)) 2 (.int .i64 la)) 3 (.int .i64 fl))
  clear hW3 q z l HB2 HG2 HBr HBz hG4
  obtain ⟨q3, z3, l3⟩ := HBr3.out
  obtain ⟨qz, zz, lz⟩ := HBz3.out
  go_wp2
  obtain ⟨qf, zf, lf⟩ := HBF.out
  refine bodyPost_ret (v := .agg #[.slice A n c, .int .i64 fi, .int .i64 la, .int .i64 fl]) (by simp [results, Try.results33, go_sem, qf, zf, lf]) rfl ⟨rfl, HB3.out.grown HGZ.out HNE.out.1, HGF.out⟩
end Go.Proofs.Ytoliplochipoeaa

/- The example of chapter 23 and the laws ServerResult and ServerOwn as contracts. -/
import Derived.Test.YtmelkboejkoiiaaServer
import Derived.Test.YtmelkboejkoiiaaReply
import Derived.Test.YtmelkboejkoiiaaOpenO
set_option linter.unusedVariables false
set_option linter.unusedSimpArgs false
namespace Go.Proofs.Ytmelkboejkoiiaa
open Go.RowKit

theorem result_eq (V F E C L N : Int) (M : Bool) (dA oA : Option Addr) (dn dc on oc B : Nat) (xs ys : List Int) (st : Int) (n : Nat) (w : World) (hr : Rd w B 1 dA dn (by8 xs)) (hn : dn ≤ 100000) (hs : srv V F E xs = (st, ys)) (hl : ys.length = n) :
    Calls Try.prog 8 #[.agg #[.int .i64 V, .int .i64 F, .int .i64 E, .slice dA dn dc, .int .i64 C, .int .i64 L, .bool M, .int .i64 N, .slice oA on oc]] w fun e w' => ∃ A c, e = .returned (.tuple #[.int .i64 st, .slice A n c]) ∧ Rd w' w'.heap.size 1 A n (by8 ys) ∧ Below w.heap.size w w' := by
  subst hl
  refine (result_any V F E C L N M dA oA dn dc on oc B xs w hr hn).mono ?_
  rw [hs]
  rintro e w' ⟨A, c, rfl, hown, hb⟩
  exact ⟨A, c, rfl, Rd.of_own hown, hb⟩
theorem refServer_eq (V F E C L N : Int) (M : Bool) (dA oA : Option Addr) (dn dc on oc B : Nat) (xs ys : List Int) (st : Int) (n : Nat) (w : World) (hr : Rd w B 1 dA dn (by8 xs)) (hn : dn ≤ 100000) (hs : srv V F E xs = (st, ys)) (hl : ys.length = n) :
    Calls Try.prog 9 #[.agg #[.int .i64 V, .int .i64 F, .int .i64 E, .slice dA dn dc, .int .i64 C, .int .i64 L, .bool M, .int .i64 N, .slice oA on oc]] w fun e w' => ∃ A c, e = .returned (.tuple #[.int .i64 st, .slice A n c]) ∧ Rd w' w'.heap.size 1 A n (by8 ys) ∧ Below w.heap.size w w' := by
  subst hl
  refine (refServer_any V F E C L N M dA oA dn dc on oc B xs w hr hn).mono ?_
  rw [hs]
  rintro e w' ⟨A, c, rfl, hown, hb⟩
  exact ⟨A, c, rfl, Rd.of_own hown, hb⟩

set_option maxRecDepth 100000 in
set_option maxHeartbeats 1000000 in
theorem awake_any (w : World) : Calls Try.prog 7 #[] w fun e w' => e = .returned (.bool true) ∧ Below w.heap.size w w' := by
  go_enter Try.func7, Try.ntmps7
  go_wp2_with fail
  refine (result_eq 3 0 0 0 0 0 false none none 0 0 0 0 0 [] [] 4 0 _ Rd.nil_ (by omega) (by decide) rfl).mono ?_
  rintro e w1 ⟨A1, c1, rfl, hR1, hb1⟩
  go_wp2_with fail
  refine (result_eq 1 17 0 0 0 0 false _ none 1 1 0 0 _ [5] [5] 2 1 _ (Rd.lit rfl (Nat.lt_succ_self _)) (by omega) (by decide) rfl).mono ?_
  rintro e w2 ⟨A2, c2, rfl, hR2, hb2⟩
  have hb3 : Below w.heap.size w w2 := ext_alloc' hb1 (by simpa using hb2)
  have hc2 : (convert 22 9 (.slice A2 1 c2)).run Try.prog w2 = .ok (.string (strOfNums [5])) w2 := hR2.str
  have hc3 : (convert 22 9 (.slice (some ⟨w2.heap.size, 0, none⟩) 1 1)).run Try.prog (w2.alloc (.cells #[.int .u8 5] 5)) = .ok (.string (strOfNums [5])) (w2.alloc (.cells #[.int .u8 5] 5)) :=
    Rd.str (B := w2.heap.size + 1) (xs := [5]) (Rd.lit rfl (Nat.lt_succ_self _))
  have hc2' : (convert 22 9 (.slice A2 1 c2)).run Try.prog (w2.alloc (.cells #[.int .u8 5] 5)) = .ok (.string (strOfNums [5])) (w2.alloc (.cells #[.int .u8 5] 5)) := (hR2.alloc' _ (Nat.le_refl _)).str
  have hn2 : ∀ w : World, w.heap.size = w.heap.size := fun _ => rfl
  clear hR2 hb1 hb2 hR1 hn2
  go_wp2_with fail
  refine (request_any _).mono ?_
  rintro e w4 ⟨rfl, hb4⟩
  go_wp2
  go_ret
  exact ⟨rfl, ext_alloc' hb3 (by simpa using hb4)⟩

set_option maxRecDepth 100000 in
set_option maxHeartbeats 1000000 in
theorem lawResult_any (V F E C L N : Int) (M : Bool) (dA oA : Option Addr) (dn dc oc : Nat) (xs : List Int) (os : List Ob) (w : World) (hr : Rd w w.heap.size 1 dA dn (by8 xs)) (hro : Rd w w.heap.size 2 oA os.length (obCells os)) (hm : os.length ≤ maxLen) :
    Calls Try.prog 3 #[.agg #[.int .i64 V, .int .i64 F, .int .i64 E, .slice dA dn dc, .int .i64 C, .int .i64 L, .bool M, .int .i64 N, .slice oA os.length oc]] w fun e w' => e = .returned (.bool true) ∧ Below w.heap.size w w' := by
  obtain ⟨b, hb⟩ : ∃ b, (decide (dn ≤ 300) && objSmall os) = b := ⟨_, rfl⟩
  have HR := Lib.hid (fun w' h => reply_any F E C L N M dA oA dn dc oc w.heap.size os b w' h hm hb)
  cases b
  · clear hb
    go_enter Try.func3, Try.ntmps3
    go_wp2_with fail
    refine (HR.out _ (hro.alloc' _ (Nat.le_refl _))).mono ?_
    rintro e w1 ⟨rfl, hb1⟩
    go_wp2_with fail
    refine (awake_any _).mono ?_
    rintro e w2 ⟨rfl, hb2⟩
    go_wp2
    go_ret
    exact ⟨rfl, ext_trans (ext_alloc' (Below.refl _ _) (by simpa using hb1)) hb2⟩
  · have hdn : dn ≤ 300 := by
      rcases Nat.lt_or_ge 300 dn with h | h
      · rw [decide_eq_false (by omega), Bool.false_and] at hb; cases hb
      · exact h
    clear hb
    obtain ⟨st, hst⟩ : ∃ st, (srv V F E xs).1 = st := ⟨_, rfl⟩
    obtain ⟨ys, hys⟩ : ∃ ys, (srv V F E xs).2 = ys := ⟨_, rfl⟩
    obtain ⟨n, hn⟩ : ∃ n, ys.length = n := ⟨_, rfl⟩
    have HS := Lib.hid (show srv V F E xs = (st, ys) from Prod.ext hst hys)
    have HN := Lib.hid hn
    clear hst hys hn
    have h1 := hr.alloc' (.cells #[.int .i64 V, .int .i64 F, .int .i64 E, .slice dA dn dc, .int .i64 C, .int .i64 L, .bool M, .int .i64 N, .slice oA os.length oc] 27) (Nat.le_refl _)
    go_enter Try.func3, Try.ntmps3
    go_wp2_with fail
    refine (HR.out _ (hro.alloc' _ (Nat.le_refl _))).mono ?_
    rintro e w1 ⟨rfl, hb1⟩
    clear HR
    obtain ⟨q1, _, l1⟩ := box_new hb1
    have hr1 : Rd w1 w1.heap.size 1 dA dn (by8 xs) := ((h1.fits (by decide)).below hb1 (Nat.le_refl _)).more hb1.size
    have hbw : Below w.heap.size w w1 := ext_alloc' (Below.refl _ _) (by simpa using hb1)
    clear hb1 h1
    go_wp2_with fail
    refine (result_eq V F E C L N M dA oA dn dc os.length oc _ xs ys st n _ hr1 (by omega) HS.out HN.out).mono ?_
    rintro e w2 ⟨A2, c2, rfl, hR2, hb2⟩
    obtain ⟨q2, _, l2⟩ := box_keep q1 (by assumption) l1 hb2
    go_wp2_with fail
    refine (refServer_eq V F E C L N M dA oA dn dc os.length oc _ xs ys st n _ (hr1.below hb2 (Nat.le_refl _)) (by omega) HS.out HN.out).mono ?_
    rintro e w3 ⟨A3, c3, rfl, hR3, hb3⟩
    go_wp2_with fail
    refine (awake_any _).mono ?_
    rintro e w4 ⟨rfl, hb4⟩
    have e2 := ((hR2.below hb3 (Nat.le_refl _)).below hb4 hb3.size).str (c := c2)
    have e3 := (hR3.below hb4 (Nat.le_refl _)).str (c := c3)
    clear q1 q2
    go_wp2
    go_ret
    exact ⟨rfl, ext_trans (ext_trans (ext_trans hbw hb2) hb3) hb4⟩

end Go.Proofs.Ytmelkboejkoiiaa

/- The receiver: add (adds a character to the frame, or begins one with it). -/
import Derived.Test.YtoliplochipoeaaTRcvT
import Derived.Test.YtoliplochipoeaaBytes
set_option linter.unusedVariables false
set_option linter.unusedSimpArgs false
namespace Go.Proofs.Ytoliplochipoeaa
open Go.RowKit

/-- Only the blocks g and 'row' and new memory have changed. -/
def Chg (w w' : World) (g : Nat) (row : Option Nat) : Prop := w'.os = w.os ∧ w'.tape = w.tape ∧ w'.output = w.output ∧ w.heap.size ≤ w'.heap.size ∧ ∀ i, i < w.heap.size → i ≠ g → some i ≠ row → w'.heap[i]? = w.heap[i]?
theorem Chg.refl (w : World) (g : Nat) (row : Option Nat) : Chg w w g row := ⟨rfl, rfl, rfl, Nat.le_refl _, fun _ _ _ _ => rfl⟩
theorem Chg.below {a w w' : World} {g : Nat} {row : Option Nat} (h : Chg a w g row) (hb : Below w.heap.size w w') : Chg a w' g row :=
  ⟨hb.os.trans h.1, hb.tape.trans h.2.1, hb.output.trans h.2.2.1, Nat.le_trans h.2.2.2.1 hb.size, fun i hi hg hr => (hb.block i (Nat.lt_of_lt_of_le hi h.2.2.2.1)).trans (h.2.2.2.2 i hi hg hr)⟩
theorem Chg.grown {a w w' : World} {g : Nat} {row r : Option Nat} (h : Chg a w g row) (hg : w.grownBy w' r) (hr : r = some g ∨ r = row ∨ ∃ b, r = some b ∧ a.heap.size ≤ b) : Chg a w' g row := by
  refine ⟨hg.os.trans h.1, hg.tape.trans h.2.1, hg.output.trans h.2.2.1, Nat.le_trans h.2.2.2.1 hg.size, fun i hi hig hir => (hg.block i (Nat.lt_of_lt_of_le hi h.2.2.2.1) ?_).trans (h.2.2.2.2 i hi hig hir)⟩
  rcases hr with rfl | rfl | ⟨b, rfl, hb⟩
  · intro e; injection e with e; exact hig e
  · exact hir
  · intro e; injection e with e; omega
theorem Chg.trans {a b c : World} {g : Nat} {row row' : Option Nat} (h : Chg a b g row) (k : Chg b c g row') (hr : row' = row ∨ row' = none ∨ ∃ x, row' = some x ∧ a.heap.size ≤ x) : Chg a c g row := by
  refine ⟨k.1.trans h.1, k.2.1.trans h.2.1, k.2.2.1.trans h.2.2.1, Nat.le_trans h.2.2.2.1 k.2.2.2.1, fun i hi hig hir => (k.2.2.2.2 i (Nat.lt_of_lt_of_le hi h.2.2.2.1) hig ?_).trans (h.2.2.2.2 i hi hig hir)⟩
  rcases hr with rfl | rfl | ⟨b, rfl, hb⟩
  · exact hir
  · exact fun e => by cases e
  · intro e; injection e with e; omega
theorem Chg.weak {a b : World} {g : Nat} {row : Option Nat} (h : Chg a b g none) : Chg a b g row := ⟨h.1, h.2.1, h.2.2.1, h.2.2.2.1, fun i hi hg _ => h.2.2.2.2 i hi hg (by intro e; cases e)⟩
theorem own_off {w w' : World} {base : Nat} {e : TypeId} {size n : Nat} {v : Value} {xs : List Value} {row : Option Nat} (h : w.ownsRow base e size v n xs) (hg : w.grownBy w' row) (hne : ∀ b, v.ownBlock = some b → row ≠ some b) : w'.ownsRow base e size v n xs := by
  refine ⟨h.1, ?_⟩
  rcases h.2 with hn | ⟨b, cap, cur, rfl, hb', hgg, rest⟩
  · exact .inl hn
  · refine .inr ⟨b, cap, cur, rfl, hb', ?_, rest⟩
    rw [hg.block b (Array.getElem?_eq_some_iff.1 hgg).1 (fun e => hne b rfl e.symm)]
    exact hgg
/-- Within add: the receiver's cells, its row, the character's cells. -/
def AdS (w0 w : World) (g bx : Nat) (ev cs : Array Value) (v : Value) (row0 : Option Nat) (xs : List Int) : Prop :=
  Box w g cs ∧ w.ownsRow (g + 1) 5 1 v xs.length (by8 xs) ∧ Box w bx ev ∧ bx ≠ g ∧ some bx ≠ v.ownBlock ∧ (v.ownBlock = row0 ∨ ∃ b, v.ownBlock = some b ∧ w0.heap.size ≤ b) ∧ Chg w0 w g row0
theorem AdS.below {w0 w w' : World} {g bx : Nat} {ev cs : Array Value} {v : Value} {row0 : Option Nat} {xs : List Int} (h : AdS w0 w g bx ev cs v row0 xs) (hb : Below w.heap.size w w') : AdS w0 w' g bx ev cs v row0 xs := by
  obtain ⟨h1, h2, h3, h4, h5, h6, h7⟩ := h
  exact ⟨h1.below hb, own_below h2 hb (Nat.le_refl _), h3.below hb, h4, h5, h6, h7.below hb⟩
theorem AdS.set {w0 w : World} {g bx : Nat} {ev cs : Array Value} {v : Value} {row0 : Option Nat} {xs : List Int} (h : AdS w0 w g bx ev cs v row0 xs) {k : Nat} {u : Value} {cs' : Array Value} (hk : k < cs.size) (e : cs.setIfInBounds k u = cs') : AdS w0 (w.setCell ⟨g, k, none⟩ u) g bx ev cs' v row0 xs := by
  obtain ⟨h1, h2, h3, h4, h5, h6, h7⟩ := h
  have hg := one_set (one_refl w g) k u
  exact ⟨h1.set hk e, ownsRow_setCell_below h2 (show g < g + 1 by omega) _, h3.grown hg h4, h4, h5, h6, h7.grown hg (.inl rfl)⟩
theorem AdS.app {w0 w w' : World} {g bx : Nat} {ev cs : Array Value} {v v' : Value} {row0 : Option Nat} {xs : List Int} {x : Int} (h : AdS w0 w g bx ev cs v row0 xs) (hown : w'.ownsRow (g + 1) 5 1 v' (xs.length + 1) (by8 xs ++ [.int .u8 x])) (hg : w.grownBy w' v.ownBlock) (hn : OwnNext w v v') : AdS w0 w' g bx ev cs v' row0 (xs ++ [x]) := by
  obtain ⟨h1, h2, h3, h4, h5, h6, h7⟩ := h
  have hgne : some g ≠ v.ownBlock := fun e => by have := (h2.lt g e.symm).1; omega
  have hw0 := h7.2.2.2.1
  have hnew : v'.ownBlock = v.ownBlock ∨ ∃ b, v'.ownBlock = some b ∧ w.heap.size ≤ b := hn
  refine ⟨h1.row hg hgne, ?_, h3.row hg h5, h4, fun e => ?_, ?_, h7.grown hg ?_⟩
  · rw [List.length_append, show by8 (xs ++ [x]) = by8 xs ++ [.int .u8 x] by simp]; exact hown
  · rcases hnew with e2 | ⟨c, e2, hc⟩
    · exact h5 (by rw [← e2]; exact e)
    · rw [e2] at e; injection e with e; have := h3.2.2; omega
  · rcases hnew with e2 | ⟨c, e2, hc⟩
    · rw [e2]; exact h6
    · exact .inr ⟨c, e2, by omega⟩
  · rcases h6 with e | ⟨c, e, hc⟩
    · exact .inr (.inl e)
    · exact .inr (.inr ⟨c, e, hc⟩)
/-- The flags behind add. -/
def addFl (ac : Bool) (sil t15 : Int) (n : Nat) (fl xf : Int) : Int :=
  bits .or .i64 (if n < 256 then (if ac = true ∧ t15 < sil then bits .or .i64 fl 4 else fl) else bits .or .i64 (if ac = true ∧ t15 < sil then bits .or .i64 fl 4 else fl) 8) (bits .and .i64 xf 3)
/-- The receiver's cells in block g, and its row. -/
def RB (w : World) (g : Nat) (v : Value) (ch t15 t35 : Int) (xs : List Int) (fi la fl : Int) (ac : Bool) (lt id_ : Int) : Prop :=
  Box w g (rcvCells ch t15 t35 v fi la fl ac lt id_) ∧ w.ownsRow (g + 1) 5 1 v xs.length (by8 xs)

set_option maxRecDepth 100000 in
set_option maxHeartbeats 8000000 in
theorem add_eq (ch t15 t35 : Int) (xs xs2 : List Int) (fi1 flX : Int) (v : Value) (fi la fl : Int) (ac : Bool) (lt id_ at_ val xf sil : Int) (g : Nat) (w : World) (hR : RB w g v ch t15 t35 xs fi la fl ac lt id_) (hlen : xs.length ≤ 256) (hxs2 : (if xs.length < 256 then xs ++ [val] else xs) = xs2) (hfi1 : (if ac then fi else at_) = fi1) (hflX : addFl ac sil t15 xs.length fl xf = flX) :
    Calls Try.prog 54 #[iptr g, .agg #[.int .i64 at_, .int .u8 val, .int .i64 xf], .int .i64 sil] w fun e w' => e = .returned (.tuple #[]) ∧ ∃ v', RB w' g v' ch t15 t35 xs2 fi1 at_ flX true at_ id_ ∧ (v'.ownBlock = v.ownBlock ∨ ∃ b, v'.ownBlock = some b ∧ w.heap.size ≤ b) ∧ Chg w w' g v.ownBlock := by
  obtain ⟨hB, hO⟩ := hR
  have hgl := hB.2.2
  have hbA : Below w.heap.size w (w.alloc (.cells #[.int .i64 at_, .int .u8 val, .int .i64 xf] 40)) := (Below.refl _ _).alloc (Nat.le_refl _) _
  obtain ⟨row0, hrow⟩ : ∃ r, v.ownBlock = r := ⟨_, rfl⟩
  have hA : AdS w (w.alloc (.cells #[.int .i64 at_, .int .u8 val, .int .i64 xf] 40)) g w.heap.size #[.int .i64 at_, .int .u8 val, .int .i64 xf] (rcvCells ch t15 t35 v fi la fl ac lt id_) v row0 xs :=
    ⟨hB.below hbA, own_below hO hbA (Nat.le_refl _), Box.alloc_, by omega, fun e => by have := (hO.lt _ e.symm).2; omega, .inl hrow, (Chg.refl w g row0).below hbA⟩
  rw [hrow]
  have HA := Lib.hid hA
  have HL := Lib.hid hlen
  obtain ⟨A, c, hv, _, _⟩ := own_form hO
  subst hv
  have HXS := Lib.hid hxs2
  have HFI := Lib.hid hfi1
  have HFX := Lib.hid hflX
  clear hB hO hgl hbA hA hlen hrow hxs2 hfi1 hflX
  go_enter Try.func54, Try.ntmps54
  go_upto_region 2 with fail
  obtain ⟨W1, hW1⟩ : ∃ W, w.alloc (.cells #[.int .i64 at_, .int .u8 val, .int .i64 xf] 40) = W := ⟨_, rfl⟩
  obtain ⟨bx, hbx⟩ : ∃ b, w.heap.size = b := ⟨_, rfl⟩
  rw [hW1, hbx] at HA
  rw [hW1, hbx]
  clear hW1 hbx
  obtain ⟨q, z, l⟩ := HA.out.1
  unfold rcvCells at q
  obtain ⟨qx, zx, lx⟩ := HA.out.2.2.1
  obtain ⟨fl1, hfl1⟩ : ∃ x, (if ac = true ∧ t15 < sil then bits .or .i64 fl 4 else fl) = x := ⟨_, rfl⟩
  go_upto_if 14 with fail
  go_cut [6] (fun u x => u = .pointer (some ⟨g, 3, none⟩) ∧ AdS w x g bx #[.int .i64 at_, .int .u8 val, .int .i64 xf] (rcvCells ch t15 t35 (.slice A xs.length c) fi1 la fl1 true lt id_) (.slice A xs.length c) row0 xs)
  case first =>
    have hfi1 := HFI.out
    cases ac
    · simp at hfi1 hfl1
      subst hfi1 hfl1
      have h1 := (HA.out.set (k := 7) (u := .bool true) (cs' := rcvCells ch t15 t35 (.slice A xs.length c) fi la fl true lt id_) (by simp [rcvCells]) rfl).set (k := 4) (u := .int .i64 at_) (cs' := rcvCells ch t15 t35 (.slice A xs.length c) at_ la fl true lt id_) (by simp [rcvCells]) rfl
      have HA1 := Lib.hid h1
      clear h1
      go_wp2_with fail
      go_meet
      case rel => exact ⟨rfl, HA1.out⟩
    · by_cases hs : t15 < sil
      · have d1 : decide (t15 < sil) = true := by simpa using hs
        simp [hs] at hfi1 hfl1
        subst hfi1 hfl1
        have h1 := HA.out.set (k := 6) (u := .int .i64 (bits .or .i64 fl 4)) (cs' := rcvCells ch t15 t35 (.slice A xs.length c) fi la (bits .or .i64 fl 4) true lt id_) (by simp [rcvCells]) rfl
        have HA1 := Lib.hid h1
        clear h1 hs
        go_wp2_with fail
        go_meet
        case rel => exact ⟨rfl, HA1.out⟩
      · have d1 : decide (t15 < sil) = false := by simpa using hs
        simp [hs] at hfi1 hfl1
        subst hfi1 hfl1
        clear hs
        go_wp2_with fail
        go_meet
        case rel => exact ⟨rfl, HA.out⟩
  case rest =>
    obtain ⟨rfl, hA2⟩ := hcut
    have HA2 := Lib.hid hA2
    clear hA2 q z l qx zx lx HA
    obtain ⟨n, hn⟩ : ∃ n, xs.length = n := ⟨_, rfl⟩
    have HN := Lib.hid hn
    obtain ⟨fl2, hfl2⟩ : ∃ x, (if n < 256 then fl1 else bits .or .i64 fl1 8) = x := ⟨_, rfl⟩
    have HGO := Lib.hid (show addFl ac sil t15 n fl xf = bits .or .i64 fl2 (bits .and .i64 xf 3) by rw [← hfl2, ← hfl1]; rfl)
    rw [hn] at HA2 HL HXS HFX
    clear hfl1 hn
    obtain ⟨q, z, l⟩ := HA2.out.1
    unfold rcvCells at q
    obtain ⟨qx, zx, lx⟩ := HA2.out.2.2.1
    obtain ⟨tb, d1⟩ : ∃ tb, decide ((n : Int) < 256) = tb := ⟨_, rfl⟩
    have D1 := Lib.hid d1
    go_upto_if 41 with fail
    clear d1
    go_cut [6] (fun u x => u = .pointer (some ⟨g, 3, none⟩) ∧ ∃ v2, AdS w x g bx #[.int .i64 at_, .int .u8 val, .int .i64 xf] (rcvCells ch t15 t35 v2 fi1 la fl2 true lt id_) v2 row0 xs2)
    case first =>
      have hxs2 := HXS.out
      cases tb
      rotate_left
      · have hs : n < 256 := by have := D1.out; simp at this; omega
        simp [hs] at hxs2 hfl2
        subst hxs2 hfl2
        have HNS := Lib.hid hs
        clear hs
        go_upto_region 8 with fail
        obtain ⟨rw1, hrw⟩ : ∃ r, (Value.slice A n c).ownBlock = r := ⟨_, rfl⟩
        have HRW := Lib.hid hrw
        have HLS := Lib.hid (HA2.out.below (below_drew (Below.refl _ _)))
        have hbxn : ¬ (bx = g ∨ some bx = rw1) := by
          rintro (h | h)
          · exact HA2.out.2.2.2.1 h
          · exact HA2.out.2.2.2.2.1 (by rw [hrw]; exact h)
        obtain ⟨x0, hx0⟩ : ∃ x, wc.drew = x := ⟨_, rfl⟩
        rw [hx0] at HLS
        obtain ⟨qy, zy, ly⟩ := HLS.out.2.2.1
        have y1 : x0.cell? ⟨bx, 1, none⟩ = some (.int .u8 val) := qy 1
        clear hrw q z l qx zx lx qy zy
        refine rgx_start_x (X := fun b => b = g ∨ some b = rw1) (by kernel_rfl) ?_
        rw [hx0]
        refine rgx_t (v := ?_) (some 42) 0 (by kernel_rfl) rfl rfl (.inl ⟨by rfl, fun w' q => ?_⟩) ?_
        rotate_left
        · go_simp <;> with_reducible rfl
        try simp only [Act.put, List.setIfInBounds_toArray, List.set_cons_zero, List.set_cons_succ]
        refine rgx_t (v := ?_) (some 43) 1 (by kernel_rfl) rfl rfl (.inl ⟨by rfl, fun w' q => ?_⟩) ?_
        rotate_left
        · go_simp <;> with_reducible rfl
        try simp only [Act.put, List.setIfInBounds_toArray, List.set_cons_zero, List.set_cons_succ]
        refine rgx_t (v := ?_) (some 44) 2 (by kernel_rfl) rfl rfl (.inl ⟨by rfl, fun w' q => ?_⟩) ?_
        rotate_left
        · go_simp <;> with_reducible rfl
        try simp only [Act.put, List.setIfInBounds_toArray, List.set_cons_zero, List.set_cons_succ]
        refine rgx_t (v := ?_) (some 45) 3 (by kernel_rfl) rfl rfl (.inl ⟨by rfl, fun w' q => ?_⟩) ?_
        rotate_left
        · go_simp <;> with_reducible rfl
        try simp only [Act.put, List.setIfInBounds_toArray, List.set_cons_zero, List.set_cons_succ]
        refine rgx_t (v := ?_) (some 47) 5 (by kernel_rfl) rfl rfl (.inl ⟨by rfl, fun w' q => ?_⟩) ?_
        rotate_left
        · go_simp <;> with_reducible rfl
        try simp only [Act.put, List.setIfInBounds_toArray, List.set_cons_zero, List.set_cons_succ]
        refine rgx_t (v := ?_) (some 48) 6 (by kernel_rfl) rfl rfl (.inl ⟨by rfl, fun w' q => ?_⟩) ?_
        rotate_left
        · go_simp <;> with_reducible rfl
        try simp only [Act.put, List.setIfInBounds_toArray, List.set_cons_zero, List.set_cons_succ]
        refine rgx_2 4 7 (by kernel_rfl) ?_ ?_
        · refine ⟨_, rfl, by rfl, fun K hK => ?_⟩
          obtain ⟨q4, z4, l4⟩ := HLS.out.1
          unfold rcvCells at q4
          go_simp
          obtain ⟨x1, hE⟩ : ∃ W : World, W = x0 := ⟨_, rfl⟩
          subst hE
          refine hK (fun b => b = g ∨ some b = rw1) _ _ (fun b h => .inl h) (Mem.refl _ _) ?_
          clear q4 z4 l4
          clear hK K
          try simp only [Act.put, List.setIfInBounds_toArray, List.set_cons_zero, List.set_cons_succ]
          refine rgx_1 7 (by kernel_rfl) ?_
          refine ⟨_, rfl, by rfl, fun K hK => ?_⟩
          go_simp
          have hb := (Below.refl x1.heap.size x1).alloc (Nat.le_refl _) (.cells #[.int .u8 val] 5)
          obtain ⟨bl, hbl2⟩ : ∃ bl, x1.heap.size = bl := ⟨_, rfl⟩
          have hRl : Rd (x1.alloc (.cells #[.int .u8 val] 5)) (bl + 1) 1 (some ⟨bl, 0, none⟩) 1 [.int .u8 val] := by rw [← hbl2]; exact Rd.lit rfl (Nat.lt_succ_self _)
          have HLS := Lib.hid (HLS.out.below hb)
          obtain ⟨x2, hW⟩ : ∃ W, x1.alloc (.cells #[.int .u8 val] 5) = W := ⟨_, rfl⟩
          rw [hW] at HLS hRl hb ⊢
          rw [hbl2]
          refine hK (fun b => b = g ∨ some b = rw1) _ _ (fun b h => .inl h) (Mem.of_below hb) ?_
          have HRL := Lib.hid hRl
          clear hb hbl2 hRl hW
          clear hK K
          try simp only [Act.put, List.setIfInBounds_toArray, List.set_cons_zero, List.set_cons_succ]
          refine rgx_1 8 (by kernel_rfl) ?_
          refine ⟨_, rfl, by rfl, fun K hK => ?_⟩
          refine wp_appR (.tmp 46) (.tmp 49) 22 (g + 1) 5 _ 1 1 (.slice A n c) n (by8 xs) _ ⟨bl, 0, none⟩ 1 1 [.int .u8 val] Try.underlying22 byteInfo rfl (by decide) rfl rfl rfl (by rw [← HN.out]; have h := HLS.out.2.1; rw [HN.out] at h ⊢; exact h) HRL.out (one_ints .u8 [val]) (by have := HL.out; omega) (by omega) (by have := HLS.out.1.2.2; omega) ?_
          intro v2 x3 hown2 hg2 hn2 hb2
          have hls := HLS.out.app (x := val) (by rw [HN.out]; exact hown2) hg2 hn2
          have HLS := Lib.hid hls
          obtain ⟨A2, c2, hv2, _, _⟩ := own_form hown2
          subst hv2
          refine hK (fun b => b = g ∨ some b = rw1) _ _ (fun b h => .inl h) (Mem.of_grown hg2 (fun b e => .inr (by rw [← HRW.out]; exact e.symm))) ?_
          clear hown2 hg2 hn2 hb2 hls
          clear hK K
          try simp only [Act.put, List.setIfInBounds_toArray, List.set_cons_zero, List.set_cons_succ]
          refine rgx_t (v := ?_) (some 51) 9 (by kernel_rfl) rfl rfl (.inl ⟨by rfl, fun w' q => ?_⟩) ?_
          rotate_left
          · go_simp <;> with_reducible rfl
          try simp only [Act.put, List.setIfInBounds_toArray, List.set_cons_zero, List.set_cons_succ]
          refine rgx_t (v := ?_) (some 52) 10 (by kernel_rfl) rfl rfl (.inl ⟨by rfl, fun w' q => ?_⟩) ?_
          rotate_left
          · go_simp <;> with_reducible rfl
          try simp only [Act.put, List.setIfInBounds_toArray, List.set_cons_zero, List.set_cons_succ]
          refine rgx_1 11 (by kernel_rfl) ?_
          refine ⟨_, rfl, by rfl, fun K hK => ?_⟩
          obtain ⟨q4, z4, l4⟩ := HLS.out.1
          unfold rcvCells at q4
          go_simp
          have hLs := HLS.out.set (k := 3) (u := .slice A2 (n + 1) c2) (cs' := rcvCells ch t15 t35 (.slice A2 (n + 1) c2) fi1 la fl1 true lt id_) (by simp [rcvCells]) rfl
          have hm : Mem (fun b => b = g ∨ some b = rw1) x3 (x3.setCell ⟨g, 3, none⟩ (.slice A2 (n + 1) c2)) := (Mem.refl _ _).of_set (.inl rfl)
          obtain ⟨x4, hW⟩ : ∃ W, (x3.setCell ⟨g, 3, none⟩ (.slice A2 (n + 1) c2)) = W := ⟨_, rfl⟩
          rw [hW] at hLs hm ⊢
          refine hK (fun b => b = g ∨ some b = rw1) _ _ (fun b h => .inl h) hm ?_
          have HLS := Lib.hid hLs
          clear q4 z4 l4 hm hLs hW
          clear hK K
          try simp only [Act.put, List.setIfInBounds_toArray, List.set_cons_zero, List.set_cons_succ]
          refine rgx_d (by kernel_rfl) ?_
          go_wp2_with fail
          go_meet
          case rel => exact ⟨rfl, _, HLS.out⟩
        · refine ⟨_, rfl, by rfl, fun K hK => ?_⟩
          go_simp
          have hb := (Below.refl x0.heap.size x0).alloc (Nat.le_refl _) (.cells #[.int .u8 val] 5)
          obtain ⟨bl, hbl2⟩ : ∃ bl, x0.heap.size = bl := ⟨_, rfl⟩
          have hRl : Rd (x0.alloc (.cells #[.int .u8 val] 5)) (bl + 1) 1 (some ⟨bl, 0, none⟩) 1 [.int .u8 val] := by rw [← hbl2]; exact Rd.lit rfl (Nat.lt_succ_self _)
          have HLS := Lib.hid (HLS.out.below hb)
          obtain ⟨x1, hW⟩ : ∃ W, x0.alloc (.cells #[.int .u8 val] 5) = W := ⟨_, rfl⟩
          rw [hW] at HLS hRl hb ⊢
          rw [hbl2]
          refine hK (fun b => b = g ∨ some b = rw1) _ _ (fun b h => .inl h) (Mem.of_below hb) ?_
          have HRL := Lib.hid hRl
          clear hb hbl2 hRl hW
          clear hK K
          try simp only [Act.put, List.setIfInBounds_toArray, List.set_cons_zero, List.set_cons_succ]
          refine rgx_1 4 (by kernel_rfl) ?_
          refine ⟨_, rfl, by rfl, fun K hK => ?_⟩
          obtain ⟨q4, z4, l4⟩ := HLS.out.1
          unfold rcvCells at q4
          go_simp
          obtain ⟨x2, hE⟩ : ∃ W : World, W = x1 := ⟨_, rfl⟩
          subst hE
          refine hK (fun b => b = g ∨ some b = rw1) _ _ (fun b h => .inl h) (Mem.refl _ _) ?_
          clear q4 z4 l4
          clear hK K
          try simp only [Act.put, List.setIfInBounds_toArray, List.set_cons_zero, List.set_cons_succ]
          refine rgx_1 8 (by kernel_rfl) ?_
          refine ⟨_, rfl, by rfl, fun K hK => ?_⟩
          refine wp_appR (.tmp 46) (.tmp 49) 22 (g + 1) 5 _ 1 1 (.slice A n c) n (by8 xs) _ ⟨bl, 0, none⟩ 1 1 [.int .u8 val] Try.underlying22 byteInfo rfl (by decide) rfl rfl rfl (by rw [← HN.out]; have h := HLS.out.2.1; rw [HN.out] at h ⊢; exact h) HRL.out (one_ints .u8 [val]) (by have := HL.out; omega) (by omega) (by have := HLS.out.1.2.2; omega) ?_
          intro v2 x3 hown2 hg2 hn2 hb2
          have hls := HLS.out.app (x := val) (by rw [HN.out]; exact hown2) hg2 hn2
          have HLS := Lib.hid hls
          obtain ⟨A2, c2, hv2, _, _⟩ := own_form hown2
          subst hv2
          refine hK (fun b => b = g ∨ some b = rw1) _ _ (fun b h => .inl h) (Mem.of_grown hg2 (fun b e => .inr (by rw [← HRW.out]; exact e.symm))) ?_
          clear hown2 hg2 hn2 hb2 hls
          clear hK K
          try simp only [Act.put, List.setIfInBounds_toArray, List.set_cons_zero, List.set_cons_succ]
          refine rgx_t (v := ?_) (some 51) 9 (by kernel_rfl) rfl rfl (.inl ⟨by rfl, fun w' q => ?_⟩) ?_
          rotate_left
          · go_simp <;> with_reducible rfl
          try simp only [Act.put, List.setIfInBounds_toArray, List.set_cons_zero, List.set_cons_succ]
          refine rgx_t (v := ?_) (some 52) 10 (by kernel_rfl) rfl rfl (.inl ⟨by rfl, fun w' q => ?_⟩) ?_
          rotate_left
          · go_simp <;> with_reducible rfl
          try simp only [Act.put, List.setIfInBounds_toArray, List.set_cons_zero, List.set_cons_succ]
          refine rgx_1 11 (by kernel_rfl) ?_
          refine ⟨_, rfl, by rfl, fun K hK => ?_⟩
          obtain ⟨q4, z4, l4⟩ := HLS.out.1
          unfold rcvCells at q4
          go_simp
          have hLs := HLS.out.set (k := 3) (u := .slice A2 (n + 1) c2) (cs' := rcvCells ch t15 t35 (.slice A2 (n + 1) c2) fi1 la fl1 true lt id_) (by simp [rcvCells]) rfl
          have hm : Mem (fun b => b = g ∨ some b = rw1) x3 (x3.setCell ⟨g, 3, none⟩ (.slice A2 (n + 1) c2)) := (Mem.refl _ _).of_set (.inl rfl)
          obtain ⟨x4, hW⟩ : ∃ W, (x3.setCell ⟨g, 3, none⟩ (.slice A2 (n + 1) c2)) = W := ⟨_, rfl⟩
          rw [hW] at hLs hm ⊢
          refine hK (fun b => b = g ∨ some b = rw1) _ _ (fun b h => .inl h) hm ?_
          have HLS := Lib.hid hLs
          clear q4 z4 l4 hm hLs hW
          clear hK K
          try simp only [Act.put, List.setIfInBounds_toArray, List.set_cons_zero, List.set_cons_succ]
          refine rgx_d (by kernel_rfl) ?_
          go_wp2_with fail
          go_meet
          case rel => exact ⟨rfl, _, HLS.out⟩
      · have hs : ¬ n < 256 := by have := D1.out; simp at this; omega
        simp [hs] at hxs2 hfl2
        subst hxs2 hfl2
        have h1 := HA2.out.set (k := 6) (u := .int .i64 (bits .or .i64 fl1 8)) (cs' := rcvCells ch t15 t35 (.slice A n c) fi1 la (bits .or .i64 fl1 8) true lt id_) (by simp [rcvCells]) rfl
        have HA1 := Lib.hid h1
        clear h1 hs
        go_wp2_with fail
        go_meet
        case rel => exact ⟨rfl, _, HA1.out⟩
    case rest =>
      obtain ⟨rfl, v2, hA3⟩ := hcut
      have HA3 := Lib.hid hA3
      clear hA3 q z l qx zx lx HA2 hfl2
      go_upto_region 10 with fail
      have HLS := Lib.hid (HA3.out.below (below_drew (Below.refl _ _)))
      have hbxn : ¬ (bx = g) := HA3.out.2.2.2.1
      obtain ⟨x0, hx0⟩ : ∃ x, wc.drew = x := ⟨_, rfl⟩
      rw [hx0] at HLS
      obtain ⟨qy, zy, ly⟩ := HLS.out.2.2.1
      have y2 : x0.cell? ⟨bx, 2, none⟩ = some (.int .i64 xf) := qy 2
      obtain ⟨fl3, hfl3⟩ : ∃ f, bits .or .i64 fl2 (bits .and .i64 xf 3) = f := ⟨_, rfl⟩
      obtain rfl : flX = fl3 := by rw [← HFX.out, HGO.out, hfl3]
      clear qy zy
      refine rgx_start_x (X := fun b => b = g) (by kernel_rfl) ?_
      rw [hx0]
      refine rgx_t (v := ?_) (some 60) 0 (by kernel_rfl) rfl rfl (.inl ⟨by rfl, fun w' q => ?_⟩) ?_
      rotate_left
      · go_simp <;> with_reducible rfl
      try simp only [Act.put, List.setIfInBounds_toArray, List.set_cons_zero, List.set_cons_succ]
      refine rgx_t (v := ?_) (some 61) 1 (by kernel_rfl) rfl rfl (.inl ⟨by rfl, fun w' q => ?_⟩) ?_
      rotate_left
      · go_simp <;> with_reducible rfl
      try simp only [Act.put, List.setIfInBounds_toArray, List.set_cons_zero, List.set_cons_succ]
      refine rgx_t (v := ?_) (some 62) 2 (by kernel_rfl) rfl rfl (.inl ⟨by rfl, fun w' q => ?_⟩) ?_
      rotate_left
      · go_simp <;> with_reducible rfl
      try simp only [Act.put, List.setIfInBounds_toArray, List.set_cons_zero, List.set_cons_succ]
      refine rgx_t (v := ?_) (some 64) 4 (by kernel_rfl) rfl rfl (.inl ⟨by rfl, fun w' q => ?_⟩) ?_
      rotate_left
      · go_simp <;> with_reducible rfl
      try simp only [Act.put, List.setIfInBounds_toArray, List.set_cons_zero, List.set_cons_succ]
      refine rgx_t (v := ?_) (some 65) 5 (by kernel_rfl) rfl rfl (.inl ⟨by rfl, fun w' q => ?_⟩) ?_
      rotate_left
      · go_simp <;> with_reducible rfl
      try simp only [Act.put, List.setIfInBounds_toArray, List.set_cons_zero, List.set_cons_succ]
      refine rgx_t (v := ?_) (some 66) 6 (by kernel_rfl) rfl rfl (.inl ⟨by rfl, fun w' q => ?_⟩) ?_
      rotate_left
      · go_simp <;> with_reducible rfl
      try simp only [Act.put, List.setIfInBounds_toArray, List.set_cons_zero, List.set_cons_succ]
      refine rgx_1 3 (by kernel_rfl) ?_
      refine ⟨_, rfl, by rfl, fun K hK => ?_⟩
      obtain ⟨q4, z4, l4⟩ := HLS.out.1
      unfold rcvCells at q4
      go_simp
      obtain ⟨x1, hE⟩ : ∃ W : World, W = x0 := ⟨_, rfl⟩
      subst hE
      refine hK (fun b => b = g) _ _ (fun b h => .inl h) (Mem.refl _ _) ?_
      clear q4 z4 l4
      clear hK K
      try simp only [Act.put, List.setIfInBounds_toArray, List.set_cons_zero, List.set_cons_succ]
      refine rgx_t (v := ?_) (some 67) 7 (by kernel_rfl) rfl rfl (.inl ⟨by rfl, fun w' q => ?_⟩) ?_
      rotate_left
      · go_simp <;> with_reducible rfl
      try simp only [Act.put, List.setIfInBounds_toArray, List.set_cons_zero, List.set_cons_succ]
      refine rgx_t (v := ?_) (some 68) 8 (by kernel_rfl) rfl rfl (.inl ⟨by rfl, fun w' q => ?_⟩) ?_
      rotate_left
      · go_simp <;> with_reducible rfl
      try simp only [Act.put, List.setIfInBounds_toArray, List.set_cons_zero, List.set_cons_succ]
      refine rgx_t (v := ?_) (some 69) 9 (by kernel_rfl) rfl rfl (.inl ⟨by rfl, fun w' q => ?_⟩) ?_
      rotate_left
      · go_simp <;> with_reducible rfl
      try simp only [Act.put, List.setIfInBounds_toArray, List.set_cons_zero, List.set_cons_succ]
      refine rgx_1 10 (by kernel_rfl) ?_
      refine ⟨_, rfl, by rfl, fun K hK => ?_⟩
      obtain ⟨q4, z4, l4⟩ := HLS.out.1
      unfold rcvCells at q4
      go_simp
      try rw [hfl3]
      have hLs := HLS.out.set (k := 6) (u := .int .i64 flX) (cs' := rcvCells ch t15 t35 v2 fi1 la flX true lt id_) (by simp [rcvCells]) rfl
      have hm : Mem (fun b => b = g) x1 (x1.setCell ⟨g, 6, none⟩ (.int .i64 flX)) := (Mem.refl _ _).of_set rfl
      obtain ⟨x2, hW⟩ : ∃ W, (x1.setCell ⟨g, 6, none⟩ (.int .i64 flX)) = W := ⟨_, rfl⟩
      rw [hW] at hLs hm ⊢
      refine hK (fun b => b = g) _ _ (fun b h => .inl h) hm ?_
      have HLS := Lib.hid hLs
      clear q4 z4 l4 hm hLs hW
      clear hK K
      try simp only [Act.put, List.setIfInBounds_toArray, List.set_cons_zero, List.set_cons_succ]
      refine rgx_d (by kernel_rfl) ?_
      obtain ⟨q4, z4, l4⟩ := HLS.out.1
      unfold rcvCells at q4
      obtain ⟨q5, z5, l5⟩ := HLS.out.2.2.1
      have h5 := (HLS.out.set (k := 5) (u := .int .i64 at_) (cs' := rcvCells ch t15 t35 v2 fi1 at_ flX true lt id_) (by simp [rcvCells]) rfl).set (k := 8) (u := .int .i64 at_) (cs' := rcvCells ch t15 t35 v2 fi1 at_ flX true at_ id_) (by simp [rcvCells]) rfl
      have H5 := Lib.hid h5
      clear h5
      go_wp2
      go_end0
      obtain ⟨e1, e2, e3, e4, e5, e6, e7⟩ := H5.out
      exact ⟨rfl, v2, ⟨e1, e2⟩, e6, e7⟩
end Go.Proofs.Ytoliplochipoeaa

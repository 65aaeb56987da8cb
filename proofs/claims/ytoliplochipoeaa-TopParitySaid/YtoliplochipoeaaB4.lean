import Derived.Test.YtoliplochipoeaaB3
/- The receiver: add (adds a character to the frame, or begins one with it). -/
set_option linter.unusedVariables false
set_option linter.unusedSimpArgs false
namespace Go.Proofs.Ytoliplochipoeaa
open Go.RowKit

/-- Only the blocks g and 'row' and new memory have changed. -/
def Chg (w w' : World) (g : Nat) (row : Option Nat) : Prop := w'.os = w.os ∧ w'.tape = w.tape ∧ w'.output = w.output ∧ w.heap.size ≤ w'.heap.size ∧ ∀ i, i < w.heap.size → i ≠ g → some i ≠ row → w'.heap[i]? = w.heap[i]?
theorem Chg.refl (w : World) (g : Nat) (row : Option Nat) : Chg w w g row := ⟨rfl, rfl, rfl, Nat.le_refl _, fun _ _ _ _ => rfl⟩
theorem Chg.below {a w w' : World} {g : Nat} {row : Option Nat} (h : Chg a w g row) (hb : Below w.heap.size w w') : Chg a w' g row :=
  ⟨hb.os.trans h.1, hb.tape.trans h.2.1, hb.output.trans h.2.2.1, Nat.le_trans h.2.2.2.1 hb.size, fun i hi hg hr => (hb.block i (Nat.lt_of_lt_of_le hi h.2.2.2.1)).trans (h.2.2.2.2 i hi hg hr)⟩
theorem Chg.grown {a w w' : World} {g : Nat} {row r : Option Nat} (h : Chg a w g row) (hg : w.grownBy w' r) (hr : r = some g ∨ r = row ∨ ∃ b, r = some b ∧ a.heap.size ≤ b) : Chg a w' g row := by
  refine ⟨hg.os.trans h.1, hg.tape.trans h.2.1, hg.output.trans h.2.2.1, Nat.le_trans h.2.2.2.1 hg.size, fun i hi hig hir => (hg.block i (Nat.lt_of_lt_of_le hi h.2.2.2.1) ?_).trans (h.2.2.2.2 i hi hig hir)⟩
  rcases hr with rfl | rfl | ⟨b, rfl, hb⟩
  · intro e; injection e with e; exact hig e
  · exact hir
  · intro e; injection e with e; omega
theorem Chg.trans {a b c : World} {g : Nat} {row row' : Option Nat} (h : Chg a b g row) (k : Chg b c g row') (hr : row' = row ∨ row' = none ∨ ∃ x, row' = some x ∧ a.heap.size ≤ x) : Chg a c g row := by
  refine ⟨k.1.trans h.1, k.2.1.trans h.2.1, k.2.2.1.trans h.2.2.1, Nat.le_trans h.2.2.2.1 k.2.2.2.1, fun i hi hig hir => (k.2.2.2.2 i (Nat.lt_of_lt_of_le hi h.2.2.2.1) hig ?_).trans (h.2.2.2.2 i hi hig hir)⟩
  rcases hr with rfl | rfl | ⟨b, rfl, hb⟩
  · exact hir
  · exact fun e => by cases e
  · intro e; injection e with e; omega
theorem Chg.weak {a b : World} {g : Nat} {row : Option Nat} (h : Chg a b g none) : Chg a b g row := ⟨h.1, h.2.1, h.2.2.1, h.2.2.2.1, fun i hi hg _ => h.2.2.2.2 i hi hg (by intro e; cases e)⟩
theorem own_off {w w' : World} {base : Nat} {e : TypeId} {size n : Nat} {v : Value} {xs : List Value} {row : Option Nat} (h : w.ownsRow base e size v n xs) (hg : w.grownBy w' row) (hne : ∀ b, v.ownBlock = some b → row ≠ some b) : w'.ownsRow base e size v n xs := by
  refine ⟨h.1, ?_⟩
  rcases h.2 with hn | ⟨b, cap, cur, rfl, hb', hgg, rest⟩
  · exact .inl hn
  · refine .inr ⟨b, cap, cur, rfl, hb', ?_, rest⟩
    rw [hg.block b (Array.getElem?_eq_some_iff.1 hgg).1 (fun e => hne b rfl e.symm)]
    exact hgg
/-- Within add: the receiver's cells, its row, the character's cells. -/
def AdS (w0 w : World) (g bx : Nat) (ev cs : Array Value) (v : Value) (row0 : Option Nat) (xs : List Int) : Prop :=
  Box w g cs ∧ w.ownsRow (g + 1) 5 1 v xs.length (by8 xs) ∧ Box w bx ev ∧ bx ≠ g ∧ some bx ≠ v.ownBlock ∧ (v.ownBlock = row0 ∨ ∃ b, v.ownBlock = some b ∧ w0.heap.size ≤ b) ∧ Chg w0 w g row0
theorem AdS.below {w0 w w' : World} {g bx : Nat} {ev cs : Array Value} {v : Value} {row0 : Option Nat} {xs : List Int} (h : AdS w0 w g bx ev cs v row0 xs) (hb : Below w.heap.size w w') : AdS w0 w' g bx ev cs v row0 xs := by
  obtain ⟨h1, h2, h3, h4, h5, h6, h7⟩ := h
  exact ⟨h1.below hb, own_below h2 hb (Nat.le_refl _), h3.below hb, h4, h5, h6, h7.below hb⟩
theorem AdS.set {w0 w : World} {g bx : Nat} {ev cs : Array Value} {v : Value} {row0 : Option Nat} {xs : List Int} (h : AdS w0 w g bx ev cs v row0 xs) {k : Nat} {u : Value} {cs' : Array Value} (hk : k < cs.size) (e : cs.setIfInBounds k u = cs') : AdS w0 (w.setCell ⟨g, k, none⟩ u) g bx ev cs' v row0 xs := by
  obtain ⟨h1, h2, h3, h4, h5, h6, h7⟩ := h
  have hg := one_set (one_refl w g) k u
  exact ⟨h1.set hk e, ownsRow_setCell_below h2 (show g < g + 1 by omega) _, h3.grown hg h4, h4, h5, h6, h7.grown hg (.inl rfl)⟩
theorem AdS.app {w0 w w' : World} {g bx : Nat} {ev cs : Array Value} {v v' : Value} {row0 : Option Nat} {xs : List Int} {x : Int} (h : AdS w0 w g bx ev cs v row0 xs) (hown : w'.ownsRow (g + 1) 5 1 v' (xs.length + 1) (by8 xs ++ [.int .u8 x])) (hg : w.grownBy w' v.ownBlock) (hn : OwnNext w v v') : AdS w0 w' g bx ev cs v' row0 (xs ++ [x]) := by
  obtain ⟨h1, h2, h3, h4, h5, h6, h7⟩ := h
  have hgne : some g ≠ v.ownBlock := fun e => by have := (h2.lt g e.symm).1; omega
  have hw0 := h7.2.2.2.1
  have hnew : v'.ownBlock = v.ownBlock ∨ ∃ b, v'.ownBlock = some b ∧ w.heap.size ≤ b := hn
  refine ⟨h1.row hg hgne, ?_, h3.row hg h5, h4, fun e => ?_, ?_, h7.grown hg ?_⟩
  · rw [List.length_append, show by8 (xs ++ [x]) = by8 xs ++ [.int .u8 x] by simp]; exact hown
  · rcases hnew with e2 | ⟨c, e2, hc⟩
    · exact h5 (by rw [← e2]; exact e)
    · rw [e2] at e; injection e with e; have := h3.2.2; omega
  · rcases hnew with e2 | ⟨c, e2, hc⟩
    · rw [e2]; exact h6
    · exact .inr ⟨c, e2, by omega⟩
  · rcases h6 with e | ⟨c, e, hc⟩
    · exact .inr (.inl e)
    · exact .inr (.inr ⟨c, e, hc⟩)
/-- The flags behind add. -/
def addFl (ac : Bool) (sil t15 : Int) (n : Nat) (fl xf : Int) : Int :=
  bits .or .i64 (if n < 256 then (if ac = true ∧ t15 < sil then bits .or .i64 fl 4 else fl) else bits .or .i64 (if ac = true ∧ t15 < sil then bits .or .i64 fl 4 else fl) 8) (bits .and .i64 xf 3)
/-- The receiver's cells in block g, and its row. -/
def RB (w : World) (g : Nat) (v : Value) (ch t15 t35 : Int) (xs : List Int) (fi la fl : Int) (ac : Bool) (lt id_ : Int) : Prop :=
  Box w g (rcvCells ch t15 t35 v fi la fl ac lt id_) ∧ w.ownsRow (g + 1) 5 1 v xs.length (by8 xs)

set_option maxRecDepth 100000 in
set_option maxHeartbeats 8000000 in
theorem add_eq (ch t15 t35 : Int) (xs xs2 : List Int) (fi1 flX : Int) (v : Value) (fi la fl : Int) (ac : Bool) (lt id_ at_ val xf sil : Int) (g : Nat) (w : World) (hR : RB w g v ch t15 t35 xs fi la fl ac lt id_) (hlen : xs.length ≤ 256) (hxs2 : (if xs.length < 256 then xs ++ [val] else xs) = xs2) (hfi1 : (if ac then fi else at_) = fi1) (hflX : addFl ac sil t15 xs.length fl xf = flX) :
    Calls Try.prog 54 #[iptr g, .agg #[.int .i64 at_, .int .u8 val, .int .i64 xf], .int .i64 sil] w fun e w' => e = .returned (.tuple #[]) ∧ ∃ v', RB w' g v' ch t15 t35 xs2 fi1 at_ flX true at_ id_ ∧ (v'.ownBlock = v.ownBlock ∨ ∃ b, v'.ownBlock = some b ∧ w.heap.size ≤ b) ∧ Chg w w' g v.ownBlock := by
  obtain ⟨hB, hO⟩ := hR
  have hgl := hB.2.2
  have hbA : Below w.heap.size w (w.alloc (.cells #[.int .i64 at_, .int .u8 val, .int .i64 xf] 40)) := (Below.refl _ _).alloc (Nat.le_refl _) _
  obtain ⟨row0, hrow⟩ : ∃ r, v.ownBlock = r := ⟨_, rfl⟩
  have hA : AdS w (w.alloc (.cells #[.int .i64 at_, .int .u8 val, .int .i64 xf] 40)) g w.heap.size #[.int .i64 at_, .int .u8 val, .int .i64 xf] (rcvCells ch t15 t35 v fi la fl ac lt id_) v row0 xs :=
    ⟨hB.below hbA, own_below hO hbA (Nat.le_refl _), Box.alloc_, by omega, fun e => by have := (hO.lt _ e.symm).2; omega, .inl hrow, (Chg.refl w g row0).below hbA⟩
  rw [hrow]
  have HA := Lib.hid hA
  have HL := Lib.hid hlen
  obtain ⟨A, c, hv, _, _⟩ := own_form hO
  subst hv
  have HXS := Lib.hid hxs2
  have HFI := Lib.hid hfi1
  have HFX := Lib.hid hflX
  clear hB hO hgl hbA hA hlen hrow hxs2 hfi1 hflX
  go_enter Try.func54, Try.ntmps54
  go_upto_region 2 with fail
  obtain ⟨W1, hW1⟩ : ∃ W, w.alloc (.cells #[.int .i64 at_, .int .u8 val, .int .i64 xf] 40) = W := ⟨_, rfl⟩
  obtain ⟨bx, hbx⟩ : ∃ b, w.heap.size = b := ⟨_, rfl⟩
  rw [hW1, hbx] at HA
  rw [hW1, hbx]
  clear hW1 hbx
  obtain ⟨q, z, l⟩ := HA.out.1
  unfold rcvCells at q
  obtain ⟨qx, zx, lx⟩ := HA.out.2.2.1
  obtain ⟨fl1, hfl1⟩ : ∃ x, (if ac = true ∧ t15 < sil then bits .or .i64 fl 4 else fl) = x := ⟨_, rfl⟩
  go_upto_if 14 with fail
  go_cut [6] (fun u x => u = .pointer (some ⟨g, 3, none⟩) ∧ AdS w x g bx #[.int .i64 at_, .int .u8 val, .int .i64 xf] (rcvCells ch t15 t35 (.slice A xs.length c) fi1 la fl1 true lt id_) (.slice A xs.length c) row0 xs)
  case first =>
    have hfi1 := HFI.out
    cases ac
    · simp at hfi1 hfl1
      subst hfi1 hfl1
      have h1 := (HA.out.set (k := 7) (u := .bool true) (cs' := rcvCells ch t15 t35 (.slice A xs.length c) fi la fl true lt id_) (by simp [rcvCells]) rfl).set (k := 4) (u := .int .i64 at_) (cs' := rcvCells ch t15 t35 (.slice A xs.length c) at_ la fl true lt id_) (by simp [rcvCells]) rfl
      have HA1 := Lib.hid h1
      clear h1
      go_wp2_with fail
      go_meet
      case rel => exact ⟨rfl, HA1.out⟩
    · by_cases hs : t15 < sil
      · have d1 : decide (t15 < sil) = true := by simpa using hs
        simp [hs] at hfi1 hfl1
        subst hfi1 hfl1
        have h1 := HA.out.set (k := 6) (u := .int .i64 (bits .or .i64 fl 4)) (cs' := rcvCells ch t15 t35 (.slice A xs.length c) fi la (bits .or .i64 fl 4) true lt id_) (by simp [rcvCells]) rfl
        have HA1 := Lib.hid h1
        clear h1 hs
        go_wp2_with fail
        go_meet
        case rel => exact ⟨rfl, HA1.out⟩
      · have d1 : decide (t15 < sil) = false := by simpa using hs
        simp [hs] at hfi1 hfl1
        subst hfi1 hfl1
        clear hs
        go_wp2_with fail
        go_meet
        case rel => exact ⟨rfl, HA.out⟩
  case rest =>
    obtain ⟨rfl, hA2⟩ := hcut
    have HA2 := Lib.hid hA2
    clear hA2 q z l qx zx lx HA
    obtain ⟨n, hn⟩ : ∃ n, xs.length = n := ⟨_, rfl⟩
    have HN := Lib.hid hn
    obtain ⟨fl2, hfl2⟩ : ∃ x, (if n < 256 then fl1 else bits .or .i64 fl1 8) = x := ⟨_, rfl⟩
    have HGO := Lib.hid (show addFl ac sil t15 n fl xf = bits .or .i64 fl2 (bits .and .i64 xf 3) by rw [← hfl2, ← hfl1]; rfl)
    rw [hn] at HA2 HL HXS HFX
    clear hfl1 hn
    obtain ⟨q, z, l⟩ := HA2.out.1
    unfold rcvCells at q
    obtain ⟨qx, zx, lx⟩ := HA2.out.2.2.1
    obtain ⟨tb, d1⟩ : ∃ tb, decide ((n : Int) < 256) = tb := ⟨_, rfl⟩
    have D1 := Lib.hid d1
    go_upto_if 41 with fail
    clear d1
    go_cut [6] (fun u x => u = .pointer (some ⟨g, 3, none⟩) ∧ ∃ v2, AdS w x g bx #[.int .i64 at_, .int .u8 val, .int .i64 xf] (rcvCells ch t15 t35 v2 fi1 la fl2 true lt id_) v2 row0 xs2)
    case first =>
      have hxs2 := HXS.out
      cases tb
      rotate_left
      · have hs : n < 256 := by have := D1.out; simp at this; omega
        simp [hs] at hxs2 hfl2
        subst hxs2 hfl2
        have HNS := Lib.hid hs
        clear hs
        go_upto_region 8 with fail
        obtain ⟨rw1, hrw⟩ : ∃ r, (Value.slice A n c).ownBlock = r := ⟨_, rfl⟩
        have HRW := Lib.hid hrw
        have HLS := Lib.hid (HA2.out.below (below_drew (Below.refl _ _)))
        have hbxn : ¬ (bx = g ∨ some bx = rw1) := by
          rintro (h | h)
          · exact HA2.out.2.2.2.1 h
          · exact HA2.out.2.2.2.2.1 (by rw [hrw]; exact h)
        obtain ⟨x0, hx0⟩ : ∃ x, wc.drew = x := ⟨_, rfl⟩
        rw [hx0] at HLS
        obtain ⟨qy, zy, ly⟩ := HLS.out.2.2.1
        have y1 : x0.cell? ⟨bx, 1, none⟩ = some (.int .u8 val) := qy 1
        clear hrw q z l qx zx lx qy zy
        refine rgx_start_x (X := fun b => b = g ∨ some b = rw1) (by kernel_rfl) ?_
        rw [hx0]
        refine rgx_t (v := ?_) (some 42) 0 (by kernel_rfl) rfl rfl (.inl ⟨by rfl, fun w' q => ?_⟩) ?_
        rotate_left
        · go_simp <;> with_reducible rfl
        try simp only [Act.put, List.setIfInBounds_toArray, List.set_cons_zero, List.set_cons_succ]
        refine rgx_t (v := ?_) (some 43) 1 (by kernel_rfl) rfl rfl (.inl ⟨by rfl, fun w' q => ?_⟩) ?_
        rotate_left
        · go_simp <;> with_reducible rfl
        try simp only [Act.put, List.setIfInBounds_toArray, List.set_cons_zero, List.set_cons_succ]
        refine rgx_t (v := ?_) (some 44) 2 (by kernel_rfl) rfl rfl (.inl ⟨by rfl, fun w' q => ?_⟩) ?_
        rotate_left
        · go_simp <;> with_reducible rfl
        try simp only [Act.put, List.setIfInBounds_toArray, List.set_cons_zero, List.set_cons_succ]
        refine rgx_t (v := ?_) (some 45) 3 (by kernel_rfl) rfl rfl (.inl ⟨by rfl, fun w' q => ?_⟩) ?_
        rotate_left
        · go_simp <;> with_reducible rfl
        try simp only [Act.put, List.setIfInBounds_toArray, List.set_cons_zero, List.set_cons_succ]
        refine rgx_t (v := ?_) (some 47) 5 (by kernel_rfl) rfl rfl (.inl ⟨by rfl, fun w' q => ?_⟩) ?_
        rotate_left
        · go_simp <;> with_reducible rfl
        try simp only [Act.put, List.setIfInBounds_toArray, List.set_cons_zero, List.set_cons_succ]
        refine rgx_t (v := ?_) (some 48) 6 (by kernel_rfl) rfl rfl (.inl ⟨by rfl, fun w' q => ?_⟩) ?_
        rotate_left
        · go_simp <;> with_reducible rfl
        try simp only [Act.put, List.setIfInBounds_toArray, List.set_cons_zero, List.set_cons_succ]
        refine rgx_2 4 7 (by kernel_rfl) ?_ ?_
        · refine ⟨_, rfl, by rfl, fun K hK => ?_⟩
          obtain ⟨q4, z4, l4⟩ := HLS.out.1
          unfold rcvCells at q4
          go_simp
          obtain ⟨x1, hE⟩ : ∃ W : World, W = x0 := ⟨_, rfl⟩
          subst hE
          refine hK (fun b => b = g ∨ some b = rw1) _ _ (fun b h => .inl h) (Mem.refl _ _) ?_
          clear q4 z4 l4
          clear hK K
          try simp only [Act.put, List.setIfInBounds_toArray, List.set_cons_zero, List.set_cons_succ]
          refine rgx_1 7 (by kernel_rfl) ?_
          refine ⟨_, rfl, by rfl, fun K hK => ?_⟩
          go_simp
          have hb := (Below.refl x1.heap.size x1).alloc (Nat.le_refl _) (.cells #[.int .u8 val] 5)
          obtain ⟨bl, hbl2⟩ : ∃ bl, x1.heap.size = bl := ⟨_, rfl⟩
          have hRl : Rd (x1.alloc (.cells #[.int .u8 val] 5)) (bl + 1) 1 (some ⟨bl, 0, none⟩) 1 [.int .u8 val] := by rw [← hbl2]; exact Rd.lit rfl (Nat.lt_succ_self _)
          have HLS := Lib.hid (HLS.out.below hb)
          obtain ⟨x2, hW⟩ : ∃ W, x1.alloc (.cells #[.int .u8 val] 5) = W := ⟨_, rfl⟩
          rw [hW] at HLS hRl hb ⊢
          rw [hbl2]
          refine hK (fun b => b = g ∨ some b = rw1) _ _ (fun b h => .inl h) (Mem.of_below hb) ?_
          have HRL := Lib.hid hRl
          clear hb hbl2 hRl hW
          clear hK K
          try simp only [Act.put, List.setIfInBounds_toArray, List.set_cons_zero, List.set_cons_succ]
          refine rgx_1 8 (by kernel_rfl) ?_
          refine ⟨_, rfl, by rfl, fun K hK => ?_⟩
          refine wp_appR (.tmp 46) (.tmp 49) 22 (g + 1) 5 _ 1 1 (.slice A n c) n (by8 xs) _ ⟨bl, 0, none⟩ 1 1 [.int .u8 val] Try.underlying22 byteInfo rfl (by decide) rfl rfl rfl (by rw [← HN.out]; have h := HLS.out.2.1; rw [HN.out] at h ⊢; exact h) HRL.out (one_ints .u8 [val]) (by have := HL.out; omega) (by omega) (by have := HLS.out.1.2.2; omega) ?_
          intro v2 x3 hown2 hg2 hn2 hb2
          have hls := HLS.out.app (x := val) (by rw [HN.out]; exact hown2) hg2 hn2
          have HLS := Lib.hid hls
          obtain ⟨A2, c2, hv2, _, _⟩ := own_form hown2
          subst hv2
          refine hK (fun b => b = g ∨ some b = rw1) _ _ (fun b h => .inl h) (Mem.of_grown hg2 (fun b e => .inr (by rw [← HRW.out]; exact e.symm))) ?_
          clear hown2 hg2 hn2 hb2 hls
          clear hK K
          try simp only [Act.put, List.setIfInBounds_toArray, List.set_cons_zero, List.set_cons_succ]
          refine rgx_t (v := ?_) (some 51) 9 (by kernel_rfl) rfl rfl (.inl ⟨by rfl, fun w' q => ?_⟩) ?_
          rotate_left
          · go_simp <;> with_reducible rfl
          try simp only [Act.put, List.setIfInBounds_toArray, List.set_cons_zero, List.set_cons_succ]
          refine rgx_t (v := ?_) (some 52) 10 (by kernel_rfl) rfl rfl (.inl ⟨by rfl, fun w' q => ?_⟩) ?_
          rotate_left
          · go_simp <;> with_reducible rfl
          try simp only [Act.put, List.setIfInBounds_toArray, List.set_cons_zero, List.set_cons_succ]
          refine rgx_1 11 (by kernel_rfl) ?_
          refine ⟨_, rfl, by rfl, fun K hK => ?_⟩
          obtain ⟨q4, z4, l4⟩ := HLS.out.1
          unfold rcvCells at q4
          go_simp
          have hLs := HLS.out.set (k := 3) (u := .slice A2 (n + 1) c2) (cs' := rcvCells ch t15 t35 (.slice A2 (n + 1) c2) fi1 la fl1 true lt id_) (by simp [rcvCells]) rfl
          have hm : Mem (fun b => b = g ∨ some b = rw1) x3 (x3.setCell ⟨g, 3, none⟩ (.slice A2 (n + 1) c2)) := (Mem.refl _ _).of_set (.inl rfl)
          obtain ⟨x4, hW⟩ : ∃ W, (x3.setCell ⟨g, 3, none⟩ (.slice A2 (n + 1) c2)) = W := ⟨_, rfl⟩
          rw [hW] at hLs hm ⊢
          refine hK (fun b => b = g ∨ some b = rw1) _ _ (fun b h => .inl h) hm ?_
          have HLS := Lib.hid hLs
          clear q4 z4 l4 hm hLs hW
          clear hK K
          try simp only [Act.put, List.setIfInBounds_toArray, List.set_cons_zero, List.set_cons_succ]
          refine rgx_d (by kernel_rfl) ?_
          go_wp2_with fail
          go_meet
          case rel => exact ⟨rfl, _, HLS.out⟩
        · refine ⟨_, rfl, by rfl, fun K hK => ?_⟩
          go_simp
          have hb := (Below.refl x0.heap.size x0).alloc (Nat.le_refl _) (.cells #[.int .u8 val] 5)
          obtain ⟨bl, hbl2⟩ : ∃ bl, x0.heap.size = bl := ⟨_, rfl⟩
          have hRl : Rd (x0.alloc (.cells #[.int .u8 val] 5)) (bl + 1) 1 (some ⟨bl, 0, none⟩) 1 [.int .u8 val] := by rw [← hbl2]; exact Rd.lit rfl (Nat.lt_succ_self _)
          have HLS := Lib.hid (HLS.out.below hb)
          obtain ⟨x1, hW⟩ : ∃ W, x0.alloc (.cells #[.int .u8 val] 5) = W := ⟨_, rfl⟩
          rw [hW] at HLS hRl hb ⊢
          rw [hbl2]
          refine hK (fun b => b = g ∨ some b = rw1) _ _ (fun b h => .inl h) (Mem.of_below hb) ?_
          have HRL := Lib.hid hRl
          clear hb hbl2 hRl hW
          clear hK K
          try simp only [Act.put, List.setIfInBounds_toArray, List.set_cons_zero, List.set_cons_succ]
          refine rgx_1 4 (by kernel_rfl) ?_
          refine ⟨_, rfl, by rfl, fun K hK => ?_⟩
          obtain ⟨q4, z4, l4⟩ := HLS.out.1
          unfold rcvCells at q4
          go_simp
          obtain ⟨x2, hE⟩ : ∃ W : World, W = x1 := ⟨_, rfl⟩
          subst hE
          refine hK (fun b => b = g ∨ some b = rw1) _ _ (fun b h => .inl h) (Mem.refl _ _) ?_
          clear q4 z4 l4
          clear hK K
          try simp only [Act.put, List.setIfInBounds_toArray, List.set_cons_zero, List.set_cons_succ]
          refine rgx_1 8 (by kernel_rfl) ?_
          refine ⟨_, rfl, by rfl, fun K hK => ?_⟩
          refine wp_appR (.tmp 46) (.tmp 49) 22 (g + 1) 5 _ 1 1 (.slice A n c) n (by8 xs) _ ⟨bl, 0, none⟩ 1 1 [.int .u8 val] Try.underlying22 byteInfo rfl (by decide) rfl rfl rfl (by rw [← HN.out]; have h := HLS.out.2.1; rw [HN.out] at h ⊢; exact h) HRL.out (one_ints .u8 [val]) (by have := HL.out; omega) (by omega) (by have := HLS.out.1.2.2; omega) ?_
          intro v2 x3 hown2 hg2 hn2 hb2
          have hls := HLS.out.app (x := val) (by rw [HN.out]; exact hown2) hg2 hn2
          have HLS := Lib.hid hls
          obtain ⟨A2, c2, hv2, _, _⟩ := own_form hown2
          subst hv2
          refine hK (fun b => b = g ∨ some b = rw1) _ _ (fun b h => .inl h) (Mem.of_grown hg2 (fun b e => .inr (by rw [← HRW.out]; exact e.symm))) ?_
          clear hown2 hg2 hn2 hb2 hls
          clear hK K
          try simp only [Act.put, List.setIfInBounds_toArray, List.set_cons_zero, List.set_cons_succ]
          refine rgx_t (v := ?_) (some 51) 9 (by kernel_rfl) rfl rfl (.inl ⟨by rfl, fun w' q => ?_⟩) ?_
          rotate_left
          · go_simp <;> with_reducible rfl
          try simp only [Act.put, List.setIfInBounds_toArray, List.set_cons_zero, List.set_cons_succ]
          refine rgx_t (v := ?_) (some 52) 10 (by kernel_rfl) rfl rfl (.inl ⟨by rfl, fun w' q => ?_⟩) ?_
          rotate_left
          · go_simp <;> with_reducible rfl
          try simp only [Act.put, List.setIfInBounds_toArray, List.set_cons_zero, List.set_cons_succ]
          refine rgx_1 11 (by kernel_rfl) ?_
          refine ⟨_, rfl, by rfl, fun K hK => ?_⟩
          obtain ⟨q4, z4, l4⟩ := HLS.out.1
          unfold rcvCells at q4
          go_simp
          have hLs := HLS.out.set (k := 3) (u := .slice A2 (n + 1) c2) (cs' := rcvCells ch t15 t35 (.slice A2 (n + 1) c2) fi1 la fl1 true lt id_) (by simp [rcvCells]) rfl
          have hm : Mem (fun b => b = g ∨ some b = rw1) x3 (x3.setCell ⟨g, 3, none⟩ (.slice A2 (n + 1) c2)) := (Mem.refl _ _).of_set (.inl rfl)
          obtain ⟨x4, hW⟩ : ∃ W, (x3.setCell ⟨g, 3, none⟩ (.slice A2 (n + 1) c2)) = W := ⟨_, rfl⟩
          rw [hW] at hLs hm ⊢
          refine hK (fun b => b = g ∨ some b = rw1) _ _ (fun b h => .inl h) hm ?_
          have HLS := Lib.hid hLs
          clear q4 z4 l4 hm hLs hW
          clear hK K
          try simp only [Act.put, List.setIfInBounds_toArray, List.set_cons_zero, List.set_cons_succ]
          refine rgx_d (by kernel_rfl) ?_
          go_wp2_with fail
          go_meet
          case rel => exact ⟨rfl, _, HLS.out⟩
      · have hs : ¬ n < 256 := by have := D1.out; simp at this; omega
        simp [hs] at hxs2 hfl2
        subst hxs2 hfl2
        have h1 := HA2.out.set (k := 6) (u := .int .i64 (bits .or .i64 fl1 8)) (cs' := rcvCells ch t15 t35 (.slice A n c) fi1 la (bits .or .i64 fl1 8) true lt id_) (by simp [rcvCells]) rfl
        have HA1 := Lib.hid h1
        clear h1 hs
        go_wp2_with fail
        go_meet
        case rel => exact ⟨rfl, _, HA1.out⟩
    case rest =>
      obtain ⟨rfl, v2, hA3⟩ := hcut
      have HA3 := Lib.hid hA3
      clear hA3 q z l qx zx lx HA2 hfl2
      go_upto_region 10 with fail
      have HLS := Lib.hid (HA3.out.below (below_drew (Below.refl _ _)))
      have hbxn : ¬ (bx = g) := HA3.out.2.2.2.1
      obtain ⟨x0, hx0⟩ : ∃ x, wc.drew = x := ⟨_, rfl⟩
      rw [hx0] at HLS
      obtain ⟨qy, zy, ly⟩ := HLS.out.2.2.1
      have y2 : x0.cell? ⟨bx, 2, none⟩ = some (.int .i64 xf) := qy 2
      obtain ⟨fl3, hfl3⟩ : ∃ f, bits .or .i64 fl2 (bits .and .i64 xf 3) = f := ⟨_, rfl⟩
      obtain rfl : flX = fl3 := by rw [← HFX.out, HGO.out, hfl3]
      clear qy zy
      refine rgx_start_x (X := fun b => b = g) (by kernel_rfl) ?_
      rw [hx0]
      refine rgx_t (v := ?_) (some 60) 0 (by kernel_rfl) rfl rfl (.inl ⟨by rfl, fun w' q => ?_⟩) ?_
      rotate_left
      · go_simp <;> with_reducible rfl
      try simp only [Act.put, List.setIfInBounds_toArray, List.set_cons_zero, List.set_cons_succ]
      refine rgx_t (v := ?_) (some 61) 1 (by kernel_rfl) rfl rfl (.inl ⟨by rfl, fun w' q => ?_⟩) ?_
      rotate_left
      · go_simp <;> with_reducible rfl
      try simp only [Act.put, List.setIfInBounds_toArray, List.set_cons_zero, List.set_cons_succ]
      refine rgx_t (v := ?_) (some 62) 2 (by kernel_rfl) rfl rfl (.inl ⟨by rfl, fun w' q => ?_⟩) ?_
      rotate_left
      · go_simp <;> with_reducible rfl
      try simp only [Act.put, List.setIfInBounds_toArray, List.set_cons_zero, List.set_cons_succ]
      refine rgx_t (v := ?_) (some 64) 4 (by kernel_rfl) rfl rfl (.inl ⟨by rfl, fun w' q => ?_⟩) ?_
      rotate_left
      · go_simp <;> with_reducible rfl
      try simp only [Act.put, List.setIfInBounds_toArray, List.set_cons_zero, List.set_cons_succ]
      refine rgx_t (v := ?_) (some 65) 5 (by kernel_rfl) rfl rfl (.inl ⟨by rfl, fun w' q => ?_⟩) ?_
      rotate_left
      · go_simp <;> with_reducible rfl
      try simp only [Act.put, List.setIfInBounds_toArray, List.set_cons_zero, List.set_cons_succ]
      refine rgx_t (v := ?_) (some 66) 6 (by kernel_rfl) rfl rfl (.inl ⟨by rfl, fun w' q => ?_⟩) ?_
      rotate_left
      · go_simp <;> with_reducible rfl
      try simp only [Act.put, List.setIfInBounds_toArray, List.set_cons_zero, List.set_cons_succ]
      refine rgx_1 3 (by kernel_rfl) ?_
      refine ⟨_, rfl, by rfl, fun K hK => ?_⟩
      obtain ⟨q4, z4, l4⟩ := HLS.out.1
      unfold rcvCells at q4
      go_simp
      obtain ⟨x1, hE⟩ : ∃ W : World, W = x0 := ⟨_, rfl⟩
      subst hE
      refine hK (fun b => b = g) _ _ (fun b h => .inl h) (Mem.refl _ _) ?_
      clear q4 z4 l4
      clear hK K
      try simp only [Act.put, List.setIfInBounds_toArray, List.set_cons_zero, List.set_cons_succ]
      refine rgx_t (v := ?_) (some 67) 7 (by kernel_rfl) rfl rfl (.inl ⟨by rfl, fun w' q => ?_⟩) ?_
      rotate_left
      · go_simp <;> with_reducible rfl
      try simp only [Act.put, List.setIfInBounds_toArray, List.set_cons_zero, List.set_cons_succ]
      refine rgx_t (v := ?_) (some 68) 8 (by kernel_rfl) rfl rfl (.inl ⟨by rfl, fun w' q => ?_⟩) ?_
      rotate_left
      · go_simp <;> with_reducible rfl
      try simp only [Act.put, List.setIfInBounds_toArray, List.set_cons_zero, List.set_cons_succ]
      refine rgx_t (v := ?_) (some 69) 9 (by kernel_rfl) rfl rfl (.inl ⟨by rfl, fun w' q => ?_⟩) ?_
      rotate_left
      · go_simp <;> with_reducible rfl
      try simp only [Act.put, List.setIfInBounds_toArray, List.set_cons_zero, List.set_cons_succ]
      refine rgx_1 10 (by kernel_rfl) ?_
      refine ⟨_, rfl, by rfl, fun K hK => ?_⟩
      obtain ⟨q4, z4, l4⟩ := HLS.out.1
      unfold rcvCells at q4
      go_simp
      try rw [hfl3]
      have hLs := HLS.out.set (k := 6) (u := .int .i64 flX) (cs' := rcvCells ch t15 t35 v2 fi1 la flX true lt id_) (by simp [rcvCells]) rfl
      have hm : Mem (fun b => b = g) x1 (x1.setCell ⟨g, 6, none⟩ (.int .i64 flX)) := (Mem.refl _ _).of_set rfl
      obtain ⟨x2, hW⟩ : ∃ W, (x1.setCell ⟨g, 6, none⟩ (.int .i64 flX)) = W := ⟨_, rfl⟩
      rw [hW] at hLs hm ⊢
      refine hK (fun b => b = g) _ _ (fun b h => .inl h) hm ?_
      have HLS := Lib.hid hLs
      clear q4 z4 l4 hm hLs hW
      clear hK K
      try simp only [Act.put, List.setIfInBounds_toArray, List.set_cons_zero, List.set_cons_succ]
      refine rgx_d (by kernel_rfl) ?_
      obtain ⟨q4, z4, l4⟩ := HLS.out.1
      unfold rcvCells at q4
      obtain ⟨q5, z5, l5⟩ := HLS.out.2.2.1
      have h5 := (HLS.out.set (k := 5) (u := .int .i64 at_) (cs' := rcvCells ch t15 t35 v2 fi1 at_ flX true lt id_) (by simp [rcvCells]) rfl).set (k := 8) (u := .int .i64 at_) (cs' := rcvCells ch t15 t35 v2 fi1 at_ flX true at_ id_) (by simp [rcvCells]) rfl
      have H5 := Lib.hid h5
      clear h5
      go_wp2
      go_end0
      obtain ⟨e1, e2, e3, e4, e5, e6, e7⟩ := H5.out
      exact ⟨rfl, v2, ⟨e1, e2⟩, e6, e7⟩
end Go.Proofs.Ytoliplochipoeaa

/- The receiver: Char. -/
set_option linter.unusedVariables false
set_option linter.unusedSimpArgs false
namespace Go.Proofs.Ytoliplochipoeaa
open Go.RowKit

theorem Box.chg {w w' : World} {b g : Nat} {cs : Array Value} {row : Option Nat} (h : Box w b cs) (hc : Chg w w' g row) (h1 : b ≠ g) (h2 : some b ≠ row) : Box w' b cs := by
  have hblk := hc.2.2.2.2 b h.2.2 h1 h2
  refine ⟨fun i => ?_, fun i => ?_, heap_some hblk h.2.2⟩
  · rw [World.cell?_of_block (a := ⟨b, i, none⟩) hblk]; exact h.1 i
  · rw [frozen_of_block (p := ⟨b, i, none⟩) hblk]; exact h.2.1 i
theorem RB.below {w w' : World} {g : Nat} {v : Value} {ch t15 t35 : Int} {xs : List Int} {fi la fl : Int} {ac : Bool} {lt id_ : Int} (h : RB w g v ch t15 t35 xs fi la fl ac lt id_) (hb : Below w.heap.size w w') : RB w' g v ch t15 t35 xs fi la fl ac lt id_ :=
  ⟨h.1.below hb, own_below h.2 hb (Nat.le_refl _)⟩
theorem RB.other {w w' : World} {g : Nat} {v : Value} {ch t15 t35 : Int} {xs : List Int} {fi la fl : Int} {ac : Bool} {lt id_ : Int} {r : Option Nat} (h : RB w g v ch t15 t35 xs fi la fl ac lt id_) (hg : w.grownBy w' r) (h1 : r ≠ some g) (h2 : ∀ b, v.ownBlock = some b → r ≠ some b) : RB w' g v ch t15 t35 xs fi la fl ac lt id_ :=
  ⟨h.1.row hg (Ne.symm h1), own_off h.2 hg h2⟩

set_option maxRecDepth 100000 in
set_option maxHeartbeats 8000000 in
theorem char_keep (ch t15 t35 : Int) (xs xs2 : List Int) (fi1 flX : Int) (v : Value) (fi la fl : Int) (ac : Bool) (lt id_ at_ val xf sil : Int) (g : Nat) (w : World) (hR : RB w g v ch t15 t35 xs fi la fl ac lt id_) (hlen : xs.length ≤ 256)
    (hxs2 : (if xs.length < 256 then xs ++ [val] else xs) = xs2) (hfi1 : (if ac then fi else at_) = fi1) (hflX : addFl ac sil t15 xs.length fl xf = flX)
    (hch : 0 ≤ ch) (hch2 : ch ≤ 100000) (hlt : 0 ≤ lt) (h1 : 0 ≤ at_) (h2 : at_ ≤ 1152921504606846976) (h3 : lt ≤ at_) (h4 : id_ ≤ at_) (hsil : max 0 (at_ - ch - lt) = sil) (hno : ac = false ∨ sil < t35) :
    Calls Try.prog 32 #[iptr g, .agg #[.int .i64 at_, .int .u8 val, .int .i64 xf]] w fun e w' => e = .returned (.tuple #[noFrame, .bool false, .int .i64 0]) ∧ ∃ v', RB w' g v' ch t15 t35 xs2 fi1 at_ flX true at_ id_ ∧ (v'.ownBlock = v.ownBlock ∨ ∃ b, v'.ownBlock = some b ∧ w.heap.size ≤ b) ∧ Chg w w' g v.ownBlock := by
  have hgl := hR.1.2.2
  have hbA : Below w.heap.size w ((w.alloc (.cells #[.int .i64 at_, .int .u8 val, .int .i64 xf] 40)).alloc (.cells #[.slice none 0 0, .int .i64 0, .int .i64 0, .int .i64 0] 46)) := ((Below.refl _ _).alloc (Nat.le_refl _) _).alloc (by simp) _
  have HR := Lib.hid (hR.below hbA)
  have HBe := Lib.hid ((Box.alloc_ (w := w) (cs := #[.int .i64 at_, .int .u8 val, .int .i64 xf]) (e := 40)).alloc' (.cells #[.slice none 0 0, .int .i64 0, .int .i64 0, .int .i64 0] 46))
  have HBf := Lib.hid (show Box ((w.alloc (.cells #[.int .i64 at_, .int .u8 val, .int .i64 xf] 40)).alloc (.cells #[.slice none 0 0, .int .i64 0, .int .i64 0, .int .i64 0] 46)) (w.heap.size + 1) #[.slice none 0 0, .int .i64 0, .int .i64 0, .int .i64 0] by have := Box.alloc_ (w := w.alloc (.cells #[.int .i64 at_, .int .u8 val, .int .i64 xf] 40)) (cs := #[.slice none 0 0, .int .i64 0, .int .i64 0, .int .i64 0]) (e := 46); simpa using this)
  have HADD := Lib.hid (fun (W : World) (h : RB W g v ch t15 t35 xs fi la fl ac lt id_) => add_eq ch t15 t35 xs xs2 fi1 flX v fi la fl ac lt id_ at_ val xf sil g W h hlen hxs2 hfi1 hflX)
  have HRB := Lib.hid hR
  have k1 : IntKind.i64.wrap (at_ - ch) = at_ - ch := IntWalk.i64_in _ ⟨by omega, by omega⟩
  have k2 : IntKind.i64.wrap (at_ - ch - lt) = at_ - ch - lt := IntWalk.i64_in _ ⟨by omega, by omega⟩
  have d1 : decide (at_ < 0) = false := by simp; omega
  have d2 : decide (1152921504606846976 < at_) = false := by simp; omega
  have d3 : decide (at_ < lt) = false := by simp; omega
  have d4 : decide (at_ < id_) = false := by simp; omega
  have HNO := Lib.hid hno
  have HSIL := Lib.hid hsil
  have hbe : Below w.heap.size w (w.alloc (.cells #[.int .i64 at_, .int .u8 val, .int .i64 xf] 40)) := (Below.refl _ _).alloc (Nat.le_refl _) _
  clear hR hlen hxs2 hfi1 hflX hch hch2 hlt h1 h2 h3 h4 hsil hno
  obtain ⟨bx, hbx⟩ : ∃ b, w.heap.size = b := ⟨_, rfl⟩
  have HBX := Lib.hid hbx
  obtain ⟨W1, hW1⟩ : ∃ W, (w.alloc (.cells #[.int .i64 at_, .int .u8 val, .int .i64 xf] 40)).alloc (.cells #[.slice none 0 0, .int .i64 0, .int .i64 0, .int .i64 0] 46) = W := ⟨_, rfl⟩
  rw [hW1] at HBe HBf HR hbA
  obtain ⟨q, z, l⟩ := HR.out.1
  unfold rcvCells at q
  obtain ⟨qx, zx, lx⟩ := HBe.out
  rw [hbx] at qx zx lx HBe HBf
  obtain ⟨qf, zf, lf⟩ := HBf.out
  go_enter Try.func32, Try.ntmps32
  go_upto_region 3 with fail
  have HWB := Lib.hid (show w.heap.size ≤ bx by omega)
  clear hW1 hbx HBX
  go_upto_region 5 with fail
  go_quiet (fail)
  go_upto_region 7 with fail
  go_cut [7] (fun u x => u = .int .i64 sil ∧ Below W1.heap.size W1 x)
  case first =>
    have e5 : (if lt < at_ - ch then at_ - ch - lt else 0) = sil := by rw [← HSIL.out]; split <;> omega
    go_quiet (fail)
    go_wp2_with fail
    go_meet
    case rel => exact ⟨rfl, by first | exact below_drewN (below_drewN (Below.refl _ _) _) _ | exact below_drew (below_drewN (Below.refl _ _) _)⟩
  case rest =>
    obtain ⟨rfl, hbc⟩ := hcut
    have HR2 := Lib.hid (HR.out.below hbc)
    have HBe2 := Lib.hid (HBe.out.below hbc)
    have HBf2 := Lib.hid (HBf.out.below hbc)
    have hbD := ext_trans hbA hbc
    clear hbA hbc q z l qx zx lx qf zf lf HR HBe HBf k1 k2 d1 d2 d3 d4
    have HR3 := Lib.hid (HR2.out.below ((Below.refl _ _).alloc (Nat.le_refl _) (.cells #[.slice none 0 0, .int .i64 0, .int .i64 0, .int .i64 0] 46)))
    have HBe3 := Lib.hid (HBe2.out.alloc' (.cells #[.slice none 0 0, .int .i64 0, .int .i64 0, .int .i64 0] 46))
    have HBf3 := Lib.hid (HBf2.out.alloc' (.cells #[.slice none 0 0, .int .i64 0, .int .i64 0, .int .i64 0] 46))
    have HBg3 := Lib.hid (Box.alloc_ (w := wc) (cs := #[.slice none 0 0, .int .i64 0, .int .i64 0, .int .i64 0]) (e := 46))
    have hbE := hbD.alloc hbD.size (.cells #[.slice none 0 0, .int .i64 0, .int .i64 0, .int .i64 0] 46)
    have HBE := Lib.hid hbE
    have HBD := Lib.hid (show bx + 1 < wc.heap.size ∧ w.heap.size ≤ wc.heap.size by have := HBf2.out.2.2; have := hbD.size; exact ⟨by omega, by omega⟩)
    clear hbE hbD
    go_upto_region 9 with fail
    obtain ⟨W3, hW3⟩ : ∃ W, wc.alloc (.cells #[.slice none 0 0, .int .i64 0, .int .i64 0, .int .i64 0] 46) = W := ⟨_, rfl⟩
    obtain ⟨b8, hb8⟩ : ∃ b, wc.heap.size = b := ⟨_, rfl⟩
    have HB8 := Lib.hid (show bx + 1 < b8 ∧ w.heap.size ≤ b8 by rw [← hb8]; exact HBD.out)
    rw [hW3] at HR3 HBe3 HBf3 HBg3 HBE ⊢
    rw [hb8] at HBg3 ⊢
    clear hW3 hb8 HR2 HBe2 HBf2
    obtain ⟨q, z, l⟩ := HR3.out.1
    unfold rcvCells at q
    obtain ⟨qx, zx, lx⟩ := HBe3.out
    have HOLD := Lib.hid (fun b (h : v.ownBlock = some b) => (HRB.out.2.lt b h).2)
    go_cut [9] (fun u x => u = .bool false ∧ x = W3)
    case first =>
      rcases HNO.out with rfl | h
      · go_wp2_with fail
        go_meet
        case rel => exact ⟨rfl, rfl⟩
      · have d6 : decide (t35 ≤ sil) = false := by simp; omega
        clear h
        cases ac
        · go_wp2_with fail
          go_meet
          case rel => exact ⟨rfl, rfl⟩
        · go_wp2_with fail
          go_meet
          case rel => exact ⟨rfl, rfl⟩
    case rest =>
      obtain ⟨rfl, hwc⟩ := hcut
      obtain rfl : W3 = wc := hwc.symm
      go_wp2_with fail
      refine (HADD.out _ HR3.out).mono ?_
      rintro e w5 ⟨rfl, v', hR5, hv5, hc5⟩
      have hne : ∀ b, w.heap.size ≤ b → b ≠ g ∧ some b ≠ v.ownBlock := fun b hb => ⟨by omega, fun e => by have := HOLD.out b e.symm; omega⟩
      have HBg5 := Lib.hid (HBg3.out.chg hc5 (hne b8 HB8.out.2).1 (hne b8 HB8.out.2).2)
      have hw1 : w.heap.size ≤ bx + 1 := by have := HWB.out; omega
      have HBf5 := Lib.hid (HBf3.out.chg hc5 (hne _ hw1).1 (hne _ hw1).2)
      have hg9 := one_set (one_set (one_set (one_set (one_refl w5 (bx + 1)) 0 (.slice none 0 0)) 1 (.int .i64 0)) 2 (.int .i64 0)) 3 (.int .i64 0)
      have hW3 := HBf3.out.2.2
      have HR9 := Lib.hid (hR5.other hg9 (by intro e; injection e with e; omega) (fun b e2 e3 => by
        injection e3 with e3
        rcases hv5 with h | ⟨c, h, hc⟩
        · exact (hne (bx + 1) hw1).2 (by rw [← h, e2, e3])
        · rw [h] at e2; injection e2 with e2; omega))
      have HC9 := Lib.hid ((((Chg.refl w g v.ownBlock).below HBE.out).trans hc5 (.inl rfl)).grown hg9 (.inr (.inr ⟨_, rfl, hw1⟩)))
      have HV9 := Lib.hid (show v'.ownBlock = v.ownBlock ∨ ∃ b, v'.ownBlock = some b ∧ w.heap.size ≤ b from hv5.imp id (fun ⟨b, h1, h2⟩ => ⟨b, h1, Nat.le_trans HBE.out.size h2⟩))
      have HBz := Lib.hid ((((HBf5.out.set (k := 0) (v := .slice none 0 0) (cs' := #[.slice none 0 0, .int .i64 0, .int .i64 0, .int .i64 0]) (by simp) rfl).set (k := 1) (v := .int .i64 0) (cs' := #[.slice none 0 0, .int .i64 0, .int .i64 0, .int .i64 0]) (by simp) rfl).set (k := 2) (v := .int .i64 0) (cs' := #[.slice none 0 0, .int .i64 0, .int .i64 0, .int .i64 0]) (by simp) rfl).set (k := 3) (v := .int .i64 0) (cs' := #[.slice none 0 0, .int .i64 0, .int .i64 0, .int .i64 0]) (by simp) rfl)
      clear q z l qx zx lx hv5 hR5 hc5 hg9 hne hW3
      obtain ⟨q8, z8, l8⟩ := HBg5.out
      obtain ⟨qf, zf, lf⟩ := HBf5.out
      go_wp2
      obtain ⟨qz, zz, lz⟩ := HBz.out
      refine bodyPost_ret (v := .tuple #[noFrame, .bool false, .int .i64 0]) (by simp [results, Try.results32, go_sem, qz, zz, lz, noFrame]) rfl ⟨rfl, v', HR9.out, HV9.out, HC9.out⟩
end Go.Proofs.Ytoliplochipoeaa

/- The receiver: a Char that ends a frame. -/
set_option linter.unusedVariables false
set_option linter.unusedSimpArgs false
namespace Go.Proofs.Ytoliplochipoeaa
open Go.RowKit

set_option maxRecDepth 100000 in
set_option maxHeartbeats 8000000 in
theorem char_end (ch t15 t35 : Int) (xs : List Int) (flX : Int) (v : Value) (fi la fl : Int) (lt id_ at_ val xf sil : Int) (g : Nat) (w : World) (hR : RB w g v ch t15 t35 xs fi la fl true lt id_)
    (hflX : addFl false sil t15 0 0 xf = flX)
    (hch : 0 ≤ ch) (hch2 : ch ≤ 100000) (hlt : 0 ≤ lt) (h1 : 0 ≤ at_) (h2 : at_ ≤ 1152921504606846976) (h3 : lt ≤ at_) (h4 : id_ ≤ at_) (hsil : max 0 (at_ - ch - lt) = sil) (hyes : t35 ≤ sil) :
    Calls Try.prog 32 #[iptr g, .agg #[.int .i64 at_, .int .u8 val, .int .i64 xf]] w fun e w' => ∃ A n c, v = .slice A n c ∧ e = .returned (.tuple #[.agg #[.slice A n c, .int .i64 fi, .int .i64 la, .int .i64 fl], .bool true, .int .i64 0]) ∧ ∃ v', RB w' g v' ch t15 t35 [val] at_ at_ flX true at_ id_ ∧ (v'.ownBlock = none ∨ ∃ b, v'.ownBlock = some b ∧ w.heap.size ≤ b) ∧ Chg w w' g none := by
  obtain ⟨A, c, hv, _, _⟩ := own_form hR.2
  subst hv
  obtain ⟨n, hn⟩ : ∃ n, xs.length = n := ⟨_, rfl⟩
  rw [hn] at hR ⊢
  have HN := Lib.hid hn
  clear hn
  have hgl := hR.1.2.2
  have hbA : Below w.heap.size w ((w.alloc (.cells #[.int .i64 at_, .int .u8 val, .int .i64 xf] 40)).alloc (.cells #[.slice none 0 0, .int .i64 0, .int .i64 0, .int .i64 0] 46)) := ((Below.refl _ _).alloc (Nat.le_refl _) _).alloc (by simp) _
  have HR := Lib.hid (hR.below hbA)
  have HBe := Lib.hid ((Box.alloc_ (w := w) (cs := #[.int .i64 at_, .int .u8 val, .int .i64 xf]) (e := 40)).alloc' (.cells #[.slice none 0 0, .int .i64 0, .int .i64 0, .int .i64 0] 46))
  have HBf := Lib.hid (show Box ((w.alloc (.cells #[.int .i64 at_, .int .u8 val, .int .i64 xf] 40)).alloc (.cells #[.slice none 0 0, .int .i64 0, .int .i64 0, .int .i64 0] 46)) (w.heap.size + 1) #[.slice none 0 0, .int .i64 0, .int .i64 0, .int .i64 0] by have := Box.alloc_ (w := w.alloc (.cells #[.int .i64 at_, .int .u8 val, .int .i64 xf] 40)) (cs := #[.slice none 0 0, .int .i64 0, .int .i64 0, .int .i64 0]) (e := 46); simpa using this)
  have HADD := Lib.hid (fun (W : World) (h : RB W g (.slice none 0 0) ch t15 t35 [] 0 0 0 false lt id_) => add_eq ch t15 t35 [] [val] at_ flX (.slice none 0 0) 0 0 0 false lt id_ at_ val xf sil g W h (by simp) rfl rfl hflX)
  have HTAKE := Lib.hid (fun (W : World) (h : Box W g (rcvCells ch t15 t35 (.slice A n c) fi la fl true lt id_)) => take_any ch t15 t35 A n c fi la fl true lt id_ g W h)
  have HRB := Lib.hid hR
  have k1 : IntKind.i64.wrap (at_ - ch) = at_ - ch := IntWalk.i64_in _ ⟨by omega, by omega⟩
  have k2 : IntKind.i64.wrap (at_ - ch - lt) = at_ - ch - lt := IntWalk.i64_in _ ⟨by omega, by omega⟩
  have d1 : decide (at_ < 0) = false := by simp; omega
  have d2 : decide (1152921504606846976 < at_) = false := by simp; omega
  have d3 : decide (at_ < lt) = false := by simp; omega
  have d4 : decide (at_ < id_) = false := by simp; omega
  have HNO := Lib.hid hyes
  have HSIL := Lib.hid hsil
  have hbe : Below w.heap.size w (w.alloc (.cells #[.int .i64 at_, .int .u8 val, .int .i64 xf] 40)) := (Below.refl _ _).alloc (Nat.le_refl _) _
  clear hR hflX hch hch2 hlt h1 h2 h3 h4 hsil hyes
  obtain ⟨bx, hbx⟩ : ∃ b, w.heap.size = b := ⟨_, rfl⟩
  have HBX := Lib.hid hbx
  obtain ⟨W1, hW1⟩ : ∃ W, (w.alloc (.cells #[.int .i64 at_, .int .u8 val, .int .i64 xf] 40)).alloc (.cells #[.slice none 0 0, .int .i64 0, .int .i64 0, .int .i64 0] 46) = W := ⟨_, rfl⟩
  rw [hW1] at HBe HBf HR hbA
  obtain ⟨q, z, l⟩ := HR.out.1
  unfold rcvCells at q
  obtain ⟨qx, zx, lx⟩ := HBe.out
  rw [hbx] at qx zx lx HBe HBf
  obtain ⟨qf, zf, lf⟩ := HBf.out
  go_enter Try.func32, Try.ntmps32
  go_upto_region 3 with fail
  have HWB := Lib.hid (show w.heap.size ≤ bx by omega)
  clear hW1 hbx HBX
  go_upto_region 5 with fail
  go_quiet (fail)
  go_upto_region 7 with fail
  go_cut [7] (fun u x => u = .int .i64 sil ∧ Below W1.heap.size W1 x)
  case first =>
    have e5 : (if lt < at_ - ch then at_ - ch - lt else 0) = sil := by rw [← HSIL.out]; split <;> omega
    go_quiet (fail)
    go_wp2_with fail
    go_meet
    case rel => exact ⟨rfl, by first | exact below_drewN (below_drewN (Below.refl _ _) _) _ | exact below_drew (below_drewN (Below.refl _ _) _)⟩
  case rest =>
    obtain ⟨rfl, hbc⟩ := hcut
    have HR2 := Lib.hid (HR.out.below hbc)
    have HBe2 := Lib.hid (HBe.out.below hbc)
    have HBf2 := Lib.hid (HBf.out.below hbc)
    have hbD := ext_trans hbA hbc
    clear hbA hbc q z l qx zx lx qf zf lf HR HBe HBf k1 k2 d1 d2 d3 d4
    have HR3 := Lib.hid (HR2.out.below ((Below.refl _ _).alloc (Nat.le_refl _) (.cells #[.slice none 0 0, .int .i64 0, .int .i64 0, .int .i64 0] 46)))
    have HBe3 := Lib.hid (HBe2.out.alloc' (.cells #[.slice none 0 0, .int .i64 0, .int .i64 0, .int .i64 0] 46))
    have HBf3 := Lib.hid (HBf2.out.alloc' (.cells #[.slice none 0 0, .int .i64 0, .int .i64 0, .int .i64 0] 46))
    have HBg3 := Lib.hid (Box.alloc_ (w := wc) (cs := #[.slice none 0 0, .int .i64 0, .int .i64 0, .int .i64 0]) (e := 46))
    have hbE := hbD.alloc hbD.size (.cells #[.slice none 0 0, .int .i64 0, .int .i64 0, .int .i64 0] 46)
    have HBE := Lib.hid hbE
    have HBD := Lib.hid (show bx + 1 < wc.heap.size ∧ w.heap.size ≤ wc.heap.size by have := HBf2.out.2.2; have := hbD.size; exact ⟨by omega, by omega⟩)
    clear hbE hbD
    go_upto_region 9 with fail
    obtain ⟨W3, hW3⟩ : ∃ W, wc.alloc (.cells #[.slice none 0 0, .int .i64 0, .int .i64 0, .int .i64 0] 46) = W := ⟨_, rfl⟩
    obtain ⟨b8, hb8⟩ : ∃ b, wc.heap.size = b := ⟨_, rfl⟩
    have HB8 := Lib.hid (show bx + 1 < b8 ∧ w.heap.size ≤ b8 by rw [← hb8]; exact HBD.out)
    rw [hW3] at HR3 HBe3 HBf3 HBg3 HBE ⊢
    rw [hb8] at HBg3 ⊢
    clear hW3 hb8 HR2 HBe2 HBf2
    obtain ⟨q, z, l⟩ := HR3.out.1
    unfold rcvCells at q
    obtain ⟨qx, zx, lx⟩ := HBe3.out
    have d6 : decide (t35 ≤ sil) = true := by simpa using HNO.out
    go_cut [9] (fun u x => u = .bool true ∧ x = W3)
    case first =>
      go_wp2_with fail
      go_meet
      case rel => exact ⟨rfl, rfl⟩
    case rest =>
      obtain ⟨rfl, hwc⟩ := hcut
      obtain rfl : W3 = wc := hwc.symm
      go_wp2_with fail
      refine (HTAKE.out _ HR3.out.1).mono ?_
      rintro e w4 ⟨rfl, hB4, hg4⟩
      have hne : ∀ b, w.heap.size ≤ b → b ≠ g := fun b hb => by omega
      have hw1 : w.heap.size ≤ bx + 1 := by have := HWB.out; omega
      have HBg4 := Lib.hid (HBg3.out.row hg4 (by intro e; injection e with e; exact hne b8 HB8.out.2 e))
      have HBf4 := Lib.hid (HBf3.out.row hg4 (by intro e; injection e with e; exact hne _ hw1 e))
      have HBe4 := Lib.hid (HBe3.out.row hg4 (by intro e; injection e with e; exact hne _ HWB.out e))
      have hg5 := one_set (one_set (one_set (one_set (one_refl w4 b8) 0 (.slice A n c)) 1 (.int .i64 fi)) 2 (.int .i64 la)) 3 (.int .i64 fl)
      have HBg5 := Lib.hid ((((HBg4.out.set (k := 0) (v := .slice A n c) (cs' := #[.slice A n c, .int .i64 0, .int .i64 0, .int .i64 0]) (by simp) rfl).set (k := 1) (v := .int .i64 fi) (cs' := #[.slice A n c, .int .i64 fi, .int .i64 0, .int .i64 0]) (by simp) rfl).set (k := 2) (v := .int .i64 la) (cs' := #[.slice A n c, .int .i64 fi, .int .i64 la, .int .i64 0]) (by simp) rfl).set (k := 3) (v := .int .i64 fl) (cs' := #[.slice A n c, .int .i64 fi, .int .i64 la, .int .i64 fl]) (by simp) rfl)
      have HBf5 := Lib.hid (HBf4.out.row hg5 (by intro e; injection e with e; have := HB8.out.1; omega))
      have HBe5 := Lib.hid (HBe4.out.row hg5 (by intro e; injection e with e; have := HB8.out.1; omega))
      have HB5 := Lib.hid (hB4.row hg5 (by intro e; injection e with e; exact hne b8 HB8.out.2 e.symm))
      have HC5 := Lib.hid ((((Chg.refl w g none).below HBE.out).grown hg4 (.inl rfl)).grown hg5 (.inr (.inr ⟨_, rfl, HB8.out.2⟩)))
      clear q z l qx zx lx hB4 hg4 hg5
      obtain ⟨q4, z4, l4⟩ := HBg4.out
      obtain ⟨qx, zx, lx⟩ := HBe4.out
      go_upto_region 12 with fail
      obtain ⟨w5, hw5⟩ : ∃ W, (((w4.setCell ⟨b8, 0, none⟩ (.slice A n c)).setCell ⟨b8, 1, none⟩ (.int .i64 fi)).setCell ⟨b8, 2, none⟩ (.int .i64 la)).setCell ⟨b8, 3, none⟩ (.int .i64 fl) = W := ⟨_, rfl⟩
      rw [hw5] at HBg5 HBf5 HBe5 HB5 HC5 ⊢
      clear q4 z4 l4 qx zx lx hw5
      obtain ⟨qx, zx, lx⟩ := HBe5.out
      go_wp2_with fail
      refine (HADD.out _ ⟨HB5.out, rfl, .inl ⟨rfl, rfl⟩⟩).mono ?_
      rintro e w6 ⟨rfl, v', hR6, hv6, hc6⟩
      have hs5 := HC5.out.2.2.2.1
      have HBg6 := Lib.hid (HBg5.out.chg hc6 (hne b8 HB8.out.2) (by intro e; cases e))
      have HBf6 := Lib.hid (HBf5.out.chg hc6 (hne _ hw1) (by intro e; cases e))
      have hg9 := one_set (one_set (one_set (one_set (one_refl w6 (bx + 1)) 0 (.slice A n c)) 1 (.int .i64 fi)) 2 (.int .i64 la)) 3 (.int .i64 fl)
      have hW5 := HBf5.out.2.2
      have HR9 := Lib.hid (hR6.other hg9 (by intro e; injection e with e; omega) (fun b e2 e3 => by
        injection e3 with e3
        rcases hv6 with h | ⟨c, h, hc⟩
        · rw [h] at e2; cases e2
        · rw [h] at e2; injection e2 with e2; omega))
      have HC9 := Lib.hid ((HC5.out.trans hc6 (.inr (.inl rfl))).grown hg9 (.inr (.inr ⟨_, rfl, hw1⟩)))
      have HV9 := Lib.hid (show v'.ownBlock = none ∨ ∃ b, v'.ownBlock = some b ∧ w.heap.size ≤ b from hv6.imp id (fun ⟨b, h1, h2⟩ => ⟨b, h1, Nat.le_trans hs5 h2⟩))
      have HBz := Lib.hid ((((HBf6.out.set (k := 0) (v := .slice A n c) (cs' := #[.slice A n c, .int .i64 0, .int .i64 0, .int .i64 0]) (by simp) rfl).set (k := 1) (v := .int .i64 fi) (cs' := #[.slice A n c, .int .i64 fi, .int .i64 0, .int .i64 0]) (by simp) rfl).set (k := 2) (v := .int .i64 la) (cs' := #[.slice A n c, .int .i64 fi, .int .i64 la, .int .i64 0]) (by simp) rfl).set (k := 3) (v := .int .i64 fl) (cs' := #[.slice A n c, .int .i64 fi, .int .i64 la, .int .i64 fl]) (by simp) rfl)
      clear qx zx lx hv6 hR6 hc6 hg9 hne hW5 hs5
      obtain ⟨q8, z8, l8⟩ := HBg6.out
      obtain ⟨qf, zf, lf⟩ := HBf6.out
      go_wp2
      obtain ⟨qz, zz, lz⟩ := HBz.out
      refine bodyPost_ret (v := .tuple #[.agg #[.slice A n c, .int .i64 fi, .int .i64 la, .int .i64 fl], .bool true, .int .i64 0]) (by simp [results, Try.results32, go_sem, qz, zz, lz]) rfl ⟨A, n, c, rfl, rfl, v', HR9.out, HV9.out, HC9.out⟩
end Go.Proofs.Ytoliplochipoeaa

/- The receiver: Char refuses. -/
set_option linter.unusedVariables false
set_option linter.unusedSimpArgs false
namespace Go.Proofs.Ytoliplochipoeaa
open Go.RowKit

theorem char_nil (at_ val xf : Int) (w : World) :
    Calls Try.prog 32 #[.pointer none, .agg #[.int .i64 at_, .int .u8 val, .int .i64 xf]] w fun e w' => e = .returned (.tuple #[noFrame, .bool false, .int .i64 13]) ∧ Below w.heap.size w w' := by
  have hbA : Below w.heap.size w ((w.alloc (.cells #[.int .i64 at_, .int .u8 val, .int .i64 xf] 40)).alloc (.cells #[.slice none 0 0, .int .i64 0, .int .i64 0, .int .i64 0] 46)) := ((Below.refl _ _).alloc (Nat.le_refl _) _).alloc (by simp) _
  have HBf := Lib.hid (show Box ((w.alloc (.cells #[.int .i64 at_, .int .u8 val, .int .i64 xf] 40)).alloc (.cells #[.slice none 0 0, .int .i64 0, .int .i64 0, .int .i64 0] 46)) (w.heap.size + 1) #[.slice none 0 0, .int .i64 0, .int .i64 0, .int .i64 0] by have := Box.alloc_ (w := w.alloc (.cells #[.int .i64 at_, .int .u8 val, .int .i64 xf] 40)) (cs := #[.slice none 0 0, .int .i64 0, .int .i64 0, .int .i64 0]) (e := 46); simpa using this)
  go_enter Try.func32, Try.ntmps32
  go_wp2
  obtain ⟨qz, zz, lz⟩ := HBf.out
  refine bodyPost_ret (v := .tuple #[noFrame, .bool false, .int .i64 13]) (by simp [results, Try.results32, go_sem, qz, zz, lz, noFrame]) rfl ⟨rfl, hbA⟩
theorem box_putz {w : World} {b : Nat} (h : Box w b #[.slice none 0 0, .int .i64 0, .int .i64 0, .int .i64 0]) :
    Box ((((w.setCell ⟨b, 0, none⟩ (.slice none 0 0)).setCell ⟨b, 1, none⟩ (.int .i64 0)).setCell ⟨b, 2, none⟩ (.int .i64 0)).setCell ⟨b, 3, none⟩ (.int .i64 0)) b #[.slice none 0 0, .int .i64 0, .int .i64 0, .int .i64 0] :=
  (((h.set (k := 0) (v := .slice none 0 0) (cs' := #[.slice none 0 0, .int .i64 0, .int .i64 0, .int .i64 0]) (by simp) rfl).set (k := 1) (v := .int .i64 0) (cs' := #[.slice none 0 0, .int .i64 0, .int .i64 0, .int .i64 0]) (by simp) rfl).set (k := 2) (v := .int .i64 0) (cs' := #[.slice none 0 0, .int .i64 0, .int .i64 0, .int .i64 0]) (by simp) rfl).set (k := 3) (v := .int .i64 0) (cs' := #[.slice none 0 0, .int .i64 0, .int .i64 0, .int .i64 0]) (by simp) rfl
theorem below_putz {w0 w : World} {B b : Nat} (h : Below B w0 w) (hb : B ≤ b) :
    Below B w0 ((((w.setCell ⟨b, 0, none⟩ (.slice none 0 0)).setCell ⟨b, 1, none⟩ (.int .i64 0)).setCell ⟨b, 2, none⟩ (.int .i64 0)).setCell ⟨b, 3, none⟩ (.int .i64 0)) :=
  (((h.setCell (p := ⟨b, 0, none⟩) hb _).setCell (p := ⟨b, 1, none⟩) hb _).setCell (p := ⟨b, 2, none⟩) hb _).setCell (p := ⟨b, 3, none⟩) hb _
set_option maxRecDepth 100000 in
set_option maxHeartbeats 4000000 in
theorem char_bad (cs : Value) (ch t15 t35 : Int) (fi la fl : Int) (ac : Bool) (lt id_ at_ val xf E : Int) (g : Nat) (w : World) (hB : Box w g (rcvCells ch t15 t35 cs fi la fl ac lt id_))
    (hE : ((at_ < 0 ∨ 1152921504606846976 < at_) ∧ E = 3) ∨ (0 ≤ at_ ∧ at_ ≤ 1152921504606846976 ∧ (at_ < lt ∨ at_ < id_) ∧ E = 7)) :
    Calls Try.prog 32 #[iptr g, .agg #[.int .i64 at_, .int .u8 val, .int .i64 xf]] w fun e w' => e = .returned (.tuple #[noFrame, .bool false, .int .i64 E]) ∧ Below w.heap.size w w' := by
  have hbA : Below w.heap.size w ((w.alloc (.cells #[.int .i64 at_, .int .u8 val, .int .i64 xf] 40)).alloc (.cells #[.slice none 0 0, .int .i64 0, .int .i64 0, .int .i64 0] 46)) := ((Below.refl _ _).alloc (Nat.le_refl _) _).alloc (by simp) _
  have HBf := Lib.hid (show Box ((w.alloc (.cells #[.int .i64 at_, .int .u8 val, .int .i64 xf] 40)).alloc (.cells #[.slice none 0 0, .int .i64 0, .int .i64 0, .int .i64 0] 46)) (w.heap.size + 1) #[.slice none 0 0, .int .i64 0, .int .i64 0, .int .i64 0] by have := Box.alloc_ (w := w.alloc (.cells #[.int .i64 at_, .int .u8 val, .int .i64 xf] 40)) (cs := #[.slice none 0 0, .int .i64 0, .int .i64 0, .int .i64 0]) (e := 46); simpa using this)
  have HBe := Lib.hid ((Box.alloc_ (w := w) (cs := #[.int .i64 at_, .int .u8 val, .int .i64 xf]) (e := 40)).alloc' (.cells #[.slice none 0 0, .int .i64 0, .int .i64 0, .int .i64 0] 46))
  have HR := Lib.hid (hB.below hbA)
  obtain ⟨bx, hbx⟩ : ∃ b, w.heap.size = b := ⟨_, rfl⟩
  obtain ⟨W1, hW1⟩ : ∃ W, (w.alloc (.cells #[.int .i64 at_, .int .u8 val, .int .i64 xf] 40)).alloc (.cells #[.slice none 0 0, .int .i64 0, .int .i64 0, .int .i64 0] 46) = W := ⟨_, rfl⟩
  rw [hW1] at HBe HBf HR hbA
  have HBA := Lib.hid hbA
  obtain ⟨q, z, l⟩ := HR.out
  unfold rcvCells at q
  obtain ⟨qx, zx, lx⟩ := HBe.out
  rw [hbx] at qx zx lx HBe HBf
  obtain ⟨qf, zf, lf⟩ := HBf.out
  clear hB hbA
  have HBB := Lib.hid (show w.heap.size ≤ bx + 1 by omega)

  rcases hE with ⟨h, rfl⟩ | ⟨h1, h2, h3, rfl⟩
  · by_cases h1 : at_ < 0
    · have d1 : decide (at_ < 0) = true := by simpa using h1
      clear h h1
      go_enter Try.func32, Try.ntmps32
      go_wp2
      obtain ⟨qz, zz, lz⟩ := box_putz HBf.out
      refine bodyPost_ret (v := .tuple #[noFrame, .bool false, .int .i64 3]) (by simp [results, Try.results32, go_sem, qz, zz, lz, noFrame]) rfl ⟨rfl, below_putz (HBA.out) HBB.out⟩
    · have d1 : decide (at_ < 0) = false := by simpa using h1
      have d2 : decide (1152921504606846976 < at_) = true := by simp; omega
      clear h h1
      go_enter Try.func32, Try.ntmps32
      go_wp2
      obtain ⟨qz, zz, lz⟩ := box_putz HBf.out
      refine bodyPost_ret (v := .tuple #[noFrame, .bool false, .int .i64 3]) (by simp [results, Try.results32, go_sem, qz, zz, lz, noFrame]) rfl ⟨rfl, below_putz (HBA.out) HBB.out⟩
  · have d1 : decide (at_ < 0) = false := by simp; omega
    have d2 : decide (1152921504606846976 < at_) = false := by simp; omega
    by_cases h4 : at_ < lt
    · have d3 : decide (at_ < lt) = true := by simpa using h4
      clear h1 h2 h3 h4
      go_enter Try.func32, Try.ntmps32
      go_upto_region 3 with fail
      clear hW1 hbx
      go_upto_region 5 with fail
      go_cut [24] (fun u x => u = .bool true ∧ Below W1.heap.size W1 x)
      case first =>
        go_quiet (fail)
        go_wp2_with fail
        go_meet
        case rel => exact ⟨rfl, by first | exact below_drewN (Below.refl _ _) _ | exact below_drew (Below.refl _ _)⟩
      case rest =>
        obtain ⟨rfl, hbc⟩ := hcut
        have HBC := Lib.hid (HBf.out.below hbc)
        have HBD := Lib.hid (ext_trans HBA.out hbc)
        clear hbc q z l qx zx lx qf zf lf
        obtain ⟨qf, zf, lf⟩ := HBC.out
        go_wp2
        obtain ⟨qz, zz, lz⟩ := box_putz HBC.out
        refine bodyPost_ret (v := .tuple #[noFrame, .bool false, .int .i64 7]) (by simp [results, Try.results32, go_sem, qz, zz, lz, noFrame]) rfl ⟨rfl, below_putz (HBD.out) HBB.out⟩
    · have d3 : decide (at_ < lt) = false := by simpa using h4
      have d4 : decide (at_ < id_) = true := by simp; omega
      clear h1 h2 h3 h4
      go_enter Try.func32, Try.ntmps32
      go_upto_region 3 with fail
      clear hW1 hbx
      go_upto_region 5 with fail
      go_cut [24] (fun u x => u = .bool true ∧ Below W1.heap.size W1 x)
      case first =>
        go_quiet (fail)
        go_wp2_with fail
        go_meet
        case rel => exact ⟨rfl, by first | exact below_drewN (Below.refl _ _) _ | exact below_drew (Below.refl _ _)⟩
      case rest =>
        obtain ⟨rfl, hbc⟩ := hcut
        have HBC := Lib.hid (HBf.out.below hbc)
        have HBD := Lib.hid (ext_trans HBA.out hbc)
        clear hbc q z l qx zx lx qf zf lf
        obtain ⟨qf, zf, lf⟩ := HBC.out
        go_wp2
        obtain ⟨qz, zz, lz⟩ := box_putz HBC.out
        refine bodyPost_ret (v := .tuple #[noFrame, .bool false, .int .i64 7]) (by simp [results, Try.results32, go_sem, qz, zz, lz, noFrame]) rfl ⟨rfl, below_putz (HBD.out) HBB.out⟩
end Go.Proofs.Ytoliplochipoeaa


/- The walk of IdentSlave. -/
import Derived.Test.YtpbmolijoadonaaSlP
import Derived.Test.YtpbmolijoadonaaSlN
import Derived.Test.YtpbmolijoadonaaIdC
import Derived.Test.YtpbmolijoadonaaIdR
import Derived.Test.YtpbmolijoadonaaIdS
import Derived.Test.YtpbmolijoadonaaMake
import Derived.Test.YtpbmolijoadonaaRegX
set_option linter.unusedVariables false
set_option linter.unusedSimpArgs false
namespace Go.Proofs.Ytpbmolijoadonaa
open Go.RowKit

theorem sl_fold (S : Sl) : Array.foldl (fun (cs : Array Value) (x : Value × Nat) => cs.setIfInBounds x.2 x.1)
          #[Value.int IntKind.i64 0, Value.int IntKind.i64 0, Value.int IntKind.i64 0, Value.bool false,
            Value.slice none 0 0, Value.int IntKind.i64 0, Value.bool false, Value.slice none 0 0,
            Value.int IntKind.i64 0, Value.bool false, Value.slice none 0 0, Value.int IntKind.i64 0, Value.bool false,
            Value.slice none 0 0, Value.int IntKind.i64 0, Value.int IntKind.i64 0, Value.slice none 0 0,
            Value.bool false, Value.slice none 0 0]
          ((slCells S).zipIdx 0) 0 19 = slCells S := by
  unfold slCells
  simp
theorem slSmall_val {S : Sl} (h : slSmall S = true) : ∀ o ∈ S.obs, o.n ≤ 300 := by
  simp only [slSmall, objSmall, Bool.and_eq_true, decide_eq_true_eq, List.all_eq_true] at h
  exact h.1.1.1
theorem slSmall_of {S : Sl} (h : slSmall S = true) (hl : S.obs.length = S.on_) : S.sn ≤ 80 ∧ S.on_ ≤ 40 ∧ ∀ k, k < 4 → (S.tb k).n ≤ 40 := by
  simp only [slSmall, objSmall, Bool.and_eq_true, decide_eq_true_eq, all4_iff] at h
  exact ⟨h.1.2, by omega, h.2⟩
theorem grown8 (w : World) (b : Nat) (v0 v1 v2 v3 v4 v5 v6 v7 : Value) : w.grownBy ((((((((w.setCell ⟨b, 0, none⟩ v0).setCell ⟨b, 1, none⟩ v1).setCell ⟨b, 2, none⟩ v2).setCell ⟨b, 3, none⟩ v3).setCell ⟨b, 4, none⟩ v4).setCell ⟨b, 5, none⟩ v5).setCell ⟨b, 6, none⟩ v6).setCell ⟨b, 7, none⟩ v7) (some b) := (one_set (one_set (one_set (one_set (one_set (one_set (one_set (one_set (one_refl w b) 0 v0) 1 v1) 2 v2) 3 v3) 4 v4) 5 v5) 6 v6) 7 v7)
/-- The identification of slave S behind j replies. -/
def PL (S : Sl) (T : Ist) (j : Nat) : Prop :=
  (T.st = 0 ∧ j = T.cnt ∧ ((S.lv = 0 ∧ T = S0) ∨ (S.lv ≠ 0 ∧ ∃ k, InvS S.lv S.obs T k))) ∨ (T.st = 5 ∧ S.lv = 0) ∨ (T.st = 2 ∧ S.lv ≠ 0 ∧ T.lv = S.lv ∧ T.os = con S.obs)
theorem istab43 (w : World) : Calls Try.prog 35 #[.int .i64 43] w fun e w' => e = .returned (.bool false) ∧ w = w' := by
  go_enter Try.func35, Try.ntmps35
  go_wp2
  go_ret
  exact ⟨rfl, rfl⟩
set_option maxHeartbeats 4000000 in
theorem valid43 (ask : Int) (h1 : 0 ≤ ask) (h2 : ask ≤ 255) (w : World) : Calls Try.prog 22 #[.agg #[.int .i64 43, .int .i64 0, .int .i64 0, .int .i64 3, .int .i64 ask]] w fun e w' => e = .returned (.bool true) ∧ Below w.heap.size w w' := by
  have d1 : decide (0 ≤ ask) = true := by simpa using h1
  have d2 : decide (ask ≤ 255) = true := by simpa using h2
  go_enter Try.func22, Try.ntmps22
  go_wp2_with fail
  refine (istab43 _).mono ?_
  rintro e w' ⟨rfl, rfl⟩
  go_wp2
  go_ret
  exact ⟨rfl, (Below.refl _ _).alloc (Nat.le_refl _) _⟩
/-- What a round's reply is, as an outcome: the state behind it. -/
theorem PL_next {S : Sl} {T : Ist} {j : Nat} (hsl : slB S = true) (hlen0 : S.obs.length = S.on_) (h : PL S T j) (h0 : T.st = 0) (o : Oc) (ho : (S.lv = 0 ∧ o.V = 2 ∧ o.E = 1) ∨ (S.lv ≠ 0 ∧ o.V = 1 ∧ o.F = 43 ∧ o.L = S.lv ∧ o.M = decide (cutN (filOb T.ask S.obs) (filOb T.ask S.obs).length < (filOb T.ask S.obs).length) ∧ o.N = nextId (filOb T.ask S.obs) (cutN (filOb T.ask S.obs) (filOb T.ask S.obs).length) ∧ o.os.map (fun o => (o.id, o.val)) = ((filOb T.ask S.obs).take (cutN (filOb T.ask S.obs) (filOb T.ask S.obs).length)).map (fun o => (o.id, o.val)))) : PL S (stepI T o) (j + 1) ∧ j ≤ 16 := by
  rcases h with ⟨_, rfl, h | ⟨hl, k, hk⟩⟩ | ⟨h, _⟩ | ⟨h, _⟩
  · obtain ⟨hl, rfl⟩ := h
    rcases ho with ⟨_, hv, he⟩ | ⟨hn, _⟩
    · refine ⟨.inr (.inl ⟨?_, hl⟩), by decide⟩
      unfold stepI
      rw [if_pos ⟨hv, he, rfl⟩]
    · exact absurd hl hn
  · rcases ho with ⟨h, _⟩ | ⟨_, hV, hF, hL, hM, hN, hos⟩
    · exact absurd h hl
    · have hob := (slB_of hsl).2.2.2.resolve_left hl
      obtain ⟨h16, hris, h3, h64⟩ := objB_of hob
      have hk16 : k < S.obs.length := hk.2.2.2.1
      have hcn : T.cnt ≤ k := hk.2.2.2.2.2.2.1
      have hlen : S.obs.length ≤ 16 := by omega
      refine ⟨?_, by omega⟩
      rcases inv_step S.lv S.obs T k hlen hris h64 hk o hV hF hL _ rfl hM hN hos with ⟨hm, h1, h2, h3⟩ | ⟨hm, k', hk', hi⟩
      · exact .inr (.inr ⟨h1, hl, h2, h3⟩)
      · refine .inl ⟨hi.1, ?_, .inr ⟨hl, k', hi⟩⟩
        unfold stepI
        rw [if_neg (by rw [hV]; omega)]
        split
        · rename_i hbad
          exact absurd hi.1 (by unfold stepI; rw [if_neg (by rw [hV]; omega), if_pos hbad]; show ¬ ((4 : Int) = 0); decide)
        · rfl
  · omega
  · omega
/-- The reply of Answer as an outcome that may be fed. -/
theorem ans_fed {wr x : World} {S : Sl} {ask E C L N : Int} {M : Bool} {A4 : Option Addr} {n4 c4 gi : Nat} {row : Option Nat} (h : AnsOk wr x S ask (.returned (.agg #[.int .i64 43, .int .i64 E, .slice none 0 0, .int .i64 C, .int .i64 L, .bool M, .int .i64 N, .slice A4 n4 c4]))) (hne : S.lv ≠ 0 → filOb ask S.obs ≠ []) (h16 : S.obs.length ≤ 40) (h300 : ∀ o ∈ S.obs, o.val.length ≤ 300) (hg : gi < wr.heap.size) (hr : ∀ c, row = some c → c < wr.heap.size) :
    ∃ o : Oc, o.V = (if S.lv = 0 then 2 else 1) ∧ E = (if S.lv = 0 then 1 else 0) ∧ ocArr o = #[.int .i64 o.V, .int .i64 43, .int .i64 E, .slice none 0 0, .int .i64 C, .int .i64 L, .bool M, .int .i64 N, .slice A4 n4 c4] ∧ OcFed x gi row o ∧
      ((S.lv = 0 ∧ o.V = 2 ∧ o.E = 1) ∨ (S.lv ≠ 0 ∧ o.V = 1 ∧ o.F = 43 ∧ o.L = S.lv ∧ o.M = decide (cutN (filOb ask S.obs) (filOb ask S.obs).length < (filOb ask S.obs).length) ∧ o.N = nextId (filOb ask S.obs) (cutN (filOb ask S.obs) (filOb ask S.obs).length) ∧ o.os.map (fun o => (o.id, o.val)) = ((filOb ask S.obs).take (cutN (filOb ask S.obs) (filOb ask S.obs).length)).map (fun o => (o.id, o.val)))) := by
  rcases h with ⟨h0, hb, he⟩ | ⟨h0, hb, ⟨hf, _⟩ | ⟨hf, os, A, c, he, h1, h2, h3, h4, h5⟩⟩
  · injection he with he
    injection he with he
    simp only [Array.mk.injEq, List.cons.injEq, Value.int.injEq, Value.bool.injEq, Value.slice.injEq, true_and, and_true] at he
    obtain ⟨rfl, rfl, rfl, rfl, rfl, rfl, rfl, rfl⟩ := he
    refine ⟨⟨2, 43, 1, none, 0, 0, 0, 0, false, 0, none, 0, [], []⟩, by rw [if_pos h0], by rw [if_pos h0], rfl, ⟨Rd.nil_, (fun h => by simp at h), by simp, (fun o ho => by cases ho), (fun o ho => by cases ho)⟩, .inl ⟨h0, rfl, rfl⟩⟩
  · exact absurd hf (hne h0)
  · injection he with he
    injection he with he
    simp only [Array.mk.injEq, List.cons.injEq, Value.int.injEq, Value.bool.injEq, Value.slice.injEq, true_and, and_true] at he
    obtain ⟨rfl, rfl, rfl, rfl, rfl, rfl, rfl, rfl⟩ := he
    have hlen : os.length ≤ S.obs.length := by
      have h6 := cutN_le (filOb ask S.obs) (filOb ask S.obs).length
      have h7 := filOb_len ask S.obs
      omega
    have hval : ∀ o ∈ os, o.n ≤ 300 := fun o ho => by
      have h6 := (h5 o ho).1.1
      have hm : (o.id, o.val) ∈ os.map (fun o => (o.id, o.val)) := List.mem_map.2 ⟨o, ho, rfl⟩
      rw [h2] at hm
      obtain ⟨y, hy, hyv⟩ := List.mem_map.1 hm
      have hy2 : y ∈ S.obs := (List.mem_filter.1 (List.mem_of_mem_take hy)).1
      injection hyv with _ hv
      have := h300 y hy2
      rw [hv] at this
      simp at h6
      omega
    refine ⟨⟨1, 43, 0, none, 0, 0, 3, S.lv, _, _, A4, c4, [], os⟩, by rw [if_neg h0], by rw [if_neg h0], rfl, ⟨h3, fun _ b off e => ?_, (by show os.length ≤ 40; omega), fun o ho => ⟨(h5 o ho).1, fun _ b off e => ?_⟩, hval⟩, .inr ⟨h0, rfl, rfl, rfl, rfl, rfl, by rw [h2, h1]⟩⟩
    · have h6 := h4 b off e
      exact ⟨by omega, fun e2 => by have := hr b e2.symm; omega⟩
    · have h6 := (h5 o ho).2 b off e
      exact ⟨by omega, fun e2 => by have := hr b e2.symm; omega, fun h => h⟩
theorem Box.chg {w w' : World} {b g : Nat} {row : Option Nat} {cs : Array Value} (h : Box w b cs) (hc : Chg w w' g row) (h1 : b ≠ g) (h2 : some b ≠ row) : Box w' b cs := by
  have hblk := hc.2.2.2.2 b h.2.2 h1 h2
  refine ⟨fun i => ?_, fun i => ?_, heap_some hblk h.2.2⟩
  · rw [World.cell?_of_block (a := ⟨b, i, none⟩) hblk]; exact h.1 i
  · rw [frozen_of_block (p := ⟨b, i, none⟩) hblk]; exact h.2.1 i
/-- A row of Answer's reply, read in a later world: the block g9 is not its own. -/
theorem rd_later {wo x : World} {sz k lo g9 : Nat} {B : Option Addr} {xs : List Value} (hr : Rd wo wo.heap.size sz B k xs) (hlo : ∀ b off, B = some ⟨b, off, none⟩ → lo ≤ b) (hg : wo.grownBy x (some g9)) (h9 : g9 < lo ∨ wo.heap.size ≤ g9) : Rd x x.heap.size sz B k xs := by
  refine ⟨hr.1, fun hn => ?_⟩
  obtain ⟨b, off, e2, hb2, hc⟩ := hr.2 hn
  refine ⟨b, off, e2, Nat.lt_of_lt_of_le hb2 hg.size, fun j u hu => ?_⟩
  have hbl := hlo b off e2
  rw [World.cell?_of_block (a := ⟨b, off + j, none⟩) (hg.block b hb2 (by intro e3; injection e3 with e3; omega))]
  exact hc j u hu
theorem PL_start {S : Sl} (h : slB S = true) : PL S S0 0 := by
  refine .inl ⟨rfl, rfl, ?_⟩
  by_cases h0 : S.lv = 0
  · exact .inl ⟨h0, rfl⟩
  · have hob := (slB_of h).2.2.2.resolve_left h0
    have hc := hob
    simp only [objB, Bool.and_eq_true, decide_eq_true_eq] at hc
    have h2 := hc.1.1.1.2
    refine .inr ⟨h0, 0, inv_start S.lv S.obs ?_ (objB_of hob).2.1⟩
    rcases hl : S.obs with _ | ⟨y, t⟩
    · rw [hl] at h2; simp at h2
    · simp
theorem PL_ask {S : Sl} {T : Ist} {j : Nat} (h : PL S T j) (h0 : T.st = 0) : 0 ≤ T.ask ∧ T.ask ≤ 255 := by
  rcases h with ⟨_, _, ⟨_, rfl⟩ | ⟨_, k, hk⟩⟩ | ⟨h, _⟩ | ⟨h, _⟩
  · exact ⟨by decide, by decide⟩
  · exact ⟨hk.2.1, hk.2.2.1⟩
  · omega
  · omega
theorem PL_feed {S : Sl} {T : Ist} {j : Nat} (hsl : slB S = true) (hlen0 : S.obs.length = S.on_) (h : PL S T j) (h0 : T.st = 0) : (0 ≤ T.ask ∧ T.ask ≤ 9223372036854775807) ∧ T.cnt < 32 ∧ T.os.length ≤ 40 * T.cnt := by
  have ha := PL_ask h h0
  refine ⟨⟨ha.1, by omega⟩, ?_⟩
  rcases h with ⟨_, rfl, ⟨_, rfl⟩ | ⟨hl, k, hk⟩⟩ | ⟨h, _⟩ | ⟨h, _⟩
  · exact ⟨by decide, by decide⟩
  · have hob := (slB_of hsl).2.2.2.resolve_left hl
    have h16 := (objB_of hob).1
    obtain ⟨_, _, _, hk1, _, hos, hcnt, _, hkc⟩ := hk
    have hlen : T.os.length = k := by rw [hos]; simp [con]; omega
    refine ⟨by omega, ?_⟩
    rcases Nat.eq_zero_or_pos k with h | h
    · omega
    · have := hkc h; omega
  · omega
  · omega
theorem nextV_form (T : Ist) : ∃ f1 c1 a1 : Int, nextV T = .tuple #[.agg #[.int .i64 f1, .int .i64 0, .int .i64 0, .int .i64 c1, .int .i64 a1], .bool (decide (T.st = 0))] ∧ (T.st = 0 → f1 = 43 ∧ c1 = 3 ∧ a1 = T.ask) := by
  by_cases h : T.st = 0
  · exact ⟨43, 3, T.ask, by rw [nextV, if_pos h, decide_eq_true h]; rfl, fun _ => ⟨rfl, rfl, rfl⟩⟩
  · exact ⟨0, 0, 0, by rw [nextV, if_neg h, decide_eq_false h]; rfl, fun h2 => absurd h2 h⟩
set_option maxRecDepth 100000 in
set_option maxHeartbeats 16000000 in
theorem identSlave_any (S : Sl) (value0 : Int) (w : World) (hok : S.ok w w.heap.size) (hm : S.on_ ≤ maxLen) :
    Calls Try.prog 6 #[slV S, .int .i64 value0] w fun e w' => e = .returned (.bool true) ∧ Below w.heap.size w w' := by
  obtain ⟨sm, hsm⟩ : ∃ z, slSmall S = z := ⟨_, rfl⟩
  have HSM := Lib.hid hsm
  have HOK := Lib.hid hok
  have HM := Lib.hid hm
  have hbS := Box.alloc_ (w := w) (cs := slCells S) (e := 59)
  have hb0 : Below w.heap.size w (w.alloc (.cells (slCells S) 59)) := (Below.refl _ _).alloc (Nat.le_refl _) _
  obtain ⟨W1, hW1⟩ : ∃ W, w.alloc (.cells (slCells S) 59) = W := ⟨_, rfl⟩
  obtain ⟨g, hg⟩ : ∃ g, w.heap.size = g := ⟨_, rfl⟩
  rw [hW1, hg] at hbS
  rw [hW1] at hb0
  have HS := Lib.hid hbS
  have HB := Lib.hid hb0
  have HW1 := Lib.hid hW1
  have HG := Lib.hid hg
  clear hsm hok hm hbS hb0 hW1 hg
  go_enter Try.func6, Try.ntmps6
  go_upto_region 1 with fail
  try rw [HW1.out]
  try rw [HG.out]
  have HLD := Lib.hid (lds_of S g W1 HS.out.1)
  have hsz : (slCells S).size = 19 := rfl
  go_wp2_with (refine wpList_ldS g (slV S) (.tmp 2) HLD.out rfl rfl (by rfl) ?_)
  rw [sl_fold]
  clear hsz
  have hb2 : Below W1.heap.size W1 (W1.alloc (.cells (slCells S) 59)) := (Below.refl _ _).alloc (Nat.le_refl _) _
  have HS2 := Lib.hid (HS.out.below hb2)
  have HB2 := Lib.hid (ext_trans HB.out hb2)
  have HSA := Lib.hid (slaves_any S W1.heap.size 1 (W1.alloc (.cells (slCells S) 59)) Box.alloc_ ((HOK.out.2.1.below HB2.out (Nat.le_refl _)).more HB2.out.size) HM.out sm HSM.out)
  obtain ⟨W2, hW2⟩ : ∃ W, W1.alloc (.cells (slCells S) 59) = W := ⟨_, rfl⟩
  rw [hW2] at HS2 HB2 HSA
  rw [hW2]
  clear hb2 hW2
  refine HSA.out.mono ?_
  rintro e w' ⟨rfl, rfl⟩
  clear HSA
  cases sm
  · go_wp2_with fail
    refine (awake_any _).mono ?_
    rintro e w3 ⟨rfl, hb3⟩
    have HF := Lib.hid (ext_trans HB2.out hb3)
    clear hb3
    go_wp2
    go_ret
    exact ⟨rfl, HF.out⟩
  · obtain ⟨hs3, hs2, hs1⟩ := slSmall_of HSM.out HOK.out.2.1.solen
    have HOKW := Lib.hid (fun (W : World) (h : Below w.heap.size w W) => show S.ok W W.heap.size from ⟨fun k hk => ((HOK.out.1 k hk).below h (Nat.le_refl _)).more h.size, (HOK.out.2.1.below h (Nat.le_refl _)).more h.size, fun o ho => ⟨((HOK.out.2.2.1 o ho).1.below h (Nat.le_refl _)).more h.size, (HOK.out.2.2.1 o ho).2⟩, (HOK.out.2.2.2.below h (Nat.le_refl _)).more h.size⟩)
    obtain ⟨sb, hsb⟩ : ∃ z, slB S = z := ⟨_, rfl⟩
    have HSV := Lib.hid (fun (W : World) (h : Below w.heap.size w W) => slave_any S W (HOKW.out W h) hs1 hs2 hs3 sb hsb)
    have HSB := Lib.hid hsb
    have HSS := Lib.hid (And.intro hs1 (And.intro hs2 hs3))
    have HLD2 := Lib.hid (lds_of S g W2 HS2.out.1)
    clear hs1 hs2 hs3 hsb
    go_wp2_with (refine wpList_ldS g (slV S) (.tmp 2) HLD2.out rfl rfl (by rfl) ?_)
    refine (HSV.out _ HB2.out).mono ?_
    rintro e w3 ⟨rfl, hb3⟩
    have HS3 := Lib.hid (HS2.out.below hb3)
    have HB3 := Lib.hid (ext_trans HB2.out hb3)
    clear hb3 HS2 HB2
    cases sb
    · go_wp2_with fail
      refine (awake_any _).mono ?_
      rintro e w4 ⟨rfl, hb4⟩
      have HF := Lib.hid (ext_trans HB3.out hb4)
      clear hb4
      go_wp2
      go_ret
      exact ⟨rfl, HF.out⟩
    · obtain ⟨r, hr⟩ : ∃ r, value0 % 65536 = r := ⟨_, rfl⟩
      have HMD := Lib.hid (fun W => hr ▸ mod_any value0 65536 (by omega) (by omega) W)
      have HAN := Lib.hid (fun (ask : Int) (ha : 0 ≤ ask ∧ ask ≤ 255) (W : World) (h : Below w.heap.size w W) => answer43 S ask r W (HOKW.out W h) HSS.out.1 HSS.out.2.1 HSS.out.2.2 HSB.out ha (by omega) (by omega))
      clear hr
      go_wp2_with fail
      refine (new_any _).mono ?_
      rintro e w4 ⟨gi, rfl, hgi, hI, hb4⟩
      have HS4 := Lib.hid (HS3.out.below hb4)
      have HB4 := Lib.hid (ext_trans HB3.out hb4)
      have HGI := Lib.hid (show w.heap.size ≤ gi from Nat.le_trans HB3.out.size hgi)
      have HI4 := Lib.hid (hI noF)
      have HGGI := Lib.hid (show g < gi from Nat.lt_of_lt_of_le HS3.out.2.2 hgi)
      clear hI hb4 hgi
      have hnv0 : nextV S0 = .tuple #[.agg #[.int .i64 43, .int .i64 0, .int .i64 0, .int .i64 3, .int .i64 0], .bool true] := rfl
      have hnx0 := next_any S0 gi noF none w4 HI4.out
      rw [hnv0] at hnx0
      have HNX := Lib.hid hnx0
      clear hnv0 hnx0
      go_wp2_with fail
      refine HNX.out.mono ?_
      rintro e w5 ⟨rfl, hb5⟩
      have HI6 := Lib.hid ((HI4.out.below hb5).below ((Below.refl _ _).alloc (Nat.le_refl _) (.cells #[.int .i64 43, .int .i64 0, .int .i64 0, .int .i64 3, .int .i64 0] 32)))
      have HS6 := Lib.hid ((HS4.out.below hb5).alloc' (.cells #[.int .i64 43, .int .i64 0, .int .i64 0, .int .i64 3, .int .i64 0] 32))
      have HB6 := Lib.hid (ext_alloc (ext_trans HB4.out hb5) (.cells #[.int .i64 43, .int .i64 0, .int .i64 0, .int .i64 3, .int .i64 0] 32))
      have HGW5 := Lib.hid (show gi < w5.heap.size from Nat.lt_of_lt_of_le HI4.out.box_lt hb5.size)
      have HQ6 := Lib.hid (Box.alloc_ (w := w5) (cs := #[.int .i64 43, .int .i64 0, .int .i64 0, .int .i64 3, .int .i64 0]) (e := 32))
      clear hb5
      go_wp2_with fail
      go_loopw [6, 7, 8, 9, 10] (fun nv qv ok u9 u10 x => ∃ (j : Nat) (T : Ist) (row : Option Nat) (bq : Nat) (f0 c0 a0 : Int), nv = .int .i64 j ∧ qv = .pointer (some ⟨bq, 0, none⟩) ∧ ok = .bool (decide (T.st = 0)) ∧ j ≤ 17 ∧ (T.st = 0 → f0 = 43 ∧ c0 = 3 ∧ a0 = T.ask) ∧ Box x bq #[.int .i64 f0, .int .i64 0, .int .i64 0, .int .i64 c0, .int .i64 a0] ∧ gi ≠ bq ∧ some bq ≠ row ∧ PL S T j ∧ IdAt x gi noF row T ∧ Box x g (slCells S) ∧ Below w.heap.size w x) (fun nv _ _ _ _ _ => 40 - (intOf nv).toNat)
      case atStart => exact ⟨0, S0, none, w5.heap.size, 43, 3, 0, rfl, rfl, rfl, by omega, (fun _ => ⟨rfl, rfl, rfl⟩), HQ6.out, (by have := HI6.out.box_lt; have h2 := HI4.out.box_lt; intro e; have := HGW5.out; omega), (fun e => by cases e), PL_start HSB.out, HI6.out, HS6.out, HB6.out⟩
      case round =>
        obtain ⟨j, T, row, bq, f0, c0, a0, rfl, rfl, rfl, hj, hq, hbq, hne1, hne2, hpl, hit, hsx, hbw⟩ := hrel
        have HQV := Lib.hid hq
        have HBQ := Lib.hid hbq
        have HNE := Lib.hid (And.intro hne1 hne2)
        have HPL := Lib.hid hpl
        have HIT := Lib.hid hit
        have HSX := Lib.hid hsx
        have HBW := Lib.hid hbw
        have HJ := Lib.hid hj
        clear hq hbq hne1 hne2 hpl hit hsx hbw hj
        by_cases hst : T.st = 0
        · obtain ⟨rfl, rfl, rfl⟩ := HQV.out hst
          have d0 : decide (T.st = 0) = true := by simpa using hst
          have HST := Lib.hid hst
          obtain ⟨ask, hask⟩ : ∃ z, T.ask = z := ⟨_, rfl⟩
          rw [hask] at HBQ
          have HASK := Lib.hid hask
          have hab := PL_ask HPL.out hst
          rw [hask] at hab
          have HAN2 := Lib.hid (HAN.out ask hab)
          rw [d0]
          clear hst hask d0
          obtain ⟨V, hV⟩ : ∃ V, slV S = V := ⟨_, rfl⟩
          rw [hV] at HAN2
          have HV := Lib.hid hV
          clear hV
          go_upto_region 10 with fail
          go_cut [9] (fun u x => ∃ (g9 : Nat) (E C L N : Int) (M : Bool) (A4 : Option Addr) (n4 c4 : Nat), u = .pointer (some ⟨g9, 0, none⟩) ∧ Box x g9 #[.int .i64 43, .int .i64 E, .slice none 0 0, .int .i64 C, .int .i64 L, .bool M, .int .i64 N, .slice A4 n4 c4] ∧ AnsOk wr x S ask (.returned (.agg #[.int .i64 43, .int .i64 E, .slice none 0 0, .int .i64 C, .int .i64 L, .bool M, .int .i64 N, .slice A4 n4 c4])) ∧ wr.heap.size ≤ g9 ∧ Below wr.heap.size wr x)
          case first =>
            have HBX := Lib.hid (below_drew (Below.refl wr.heap.size wr))
            have HQ0 := Lib.hid HSX.out.drew.1
            have hgx := HSX.out.drew.2.2
            obtain ⟨qb, zb, lb⟩ := HBQ.out.drew
            refine rgx_start (by kernel_rfl) ?_
            revert HBX HQ0 hgx qb zb lb
            generalize wr.drew = x0
            intro HBX HQ0 hgx qb zb lb
            refine rgx_t (v := V) (some 39) 0 (by kernel_rfl) rfl rfl (.inl ⟨by rfl, fun w' q => lds_run (HV.out ▸ lds_of S g w' (fun i => (q g i hgx (by simp)).trans (HQ0.out i))) rfl rfl⟩) ?_
            try simp only [Act.put, List.setIfInBounds_toArray, List.set_cons_zero, List.set_cons_succ]
            refine rgx_t (v := ?_) (some 40) 1 (by kernel_rfl) rfl rfl (.inl ⟨by rfl, fun w' q => ?_⟩) ?_
            rotate_left
            · go_simp <;> with_reducible rfl
            try simp only [Act.put, List.setIfInBounds_toArray, List.set_cons_zero, List.set_cons_succ]
            refine rgx_t (v := ?_) (some 41) 2 (by kernel_rfl) rfl rfl (.inl ⟨by rfl, fun w' q => ?_⟩) ?_
            rotate_left
            · go_simp <;> with_reducible rfl
            try simp only [Act.put, List.setIfInBounds_toArray, List.set_cons_zero, List.set_cons_succ]
            refine rgx_q (v := ?_) (some 42) 3 (by kernel_rfl) rfl rfl (by rfl) (fun w' hw K hK => ?_) ?_
            rotate_left
            · go_simp
              refine (HMD.out _).mono ?_
              rintro e x9 ⟨rfl, rfl⟩
              exact hK
            try simp only [Act.put, List.setIfInBounds_toArray, List.set_cons_zero, List.set_cons_succ]
            refine rgx_2 4 5 (by kernel_rfl) ?_ ?_
            · refine ⟨_, rfl, by rfl, fun K hK => ?_⟩
              go_simp
              refine (HAN2.out _ (ext_trans HBW.out HBX.out)).mono ?_
              intro e x1 hans
              obtain ⟨E, C, L, N, M, A4, n4, c4, rfl, hb, hmv⟩ := hans.open_
              have HMV := Lib.hid hmv
              have HLW := Lib.hid (show wr.heap.size ≤ x0.heap.size from HBX.out.size)
              try have H9 := Lib.hid (show g9 < x0.heap.size ∨ x1.heap.size ≤ g9 from .inl HB9.out.2.2)
              try have HGR := Lib.hid (one_refl x1 g9)
              try have HB9 := Lib.hid (HB9.out.below hb)
              have HBX := Lib.hid (ext_trans HBX.out hb)
              refine hK (fun b => False) _ _ (fun b h => .inl h) (Mem.of_below hb) ?_
              clear hb hans hmv
              clear hK K
              try simp only [Act.put, List.setIfInBounds_toArray, List.set_cons_zero, List.set_cons_succ]
              refine rgx_1 5 (by kernel_rfl) ?_
              refine ⟨_, rfl, by rfl, fun K hK => ?_⟩
              go_simp
              obtain ⟨g9, hg9⟩ : ∃ g, x1.heap.size = g := ⟨_, rfl⟩
              obtain ⟨x2, hW⟩ : ∃ W, x1.alloc (.cells #[.int .i64 0, .int .i64 0, .slice none 0 0, .int .i64 0, .int .i64 0, .bool false, .int .i64 0, .slice none 0 0] 42) = W := ⟨_, rfl⟩
              have hb : Below x1.heap.size x1 x2 := hW ▸ (Below.refl _ _).alloc (Nat.le_refl _) _
              have HB9 := Lib.hid (show Box x2 g9 #[.int .i64 0, .int .i64 0, .slice none 0 0, .int .i64 0, .int .i64 0, .bool false, .int .i64 0, .slice none 0 0] from hW ▸ hg9 ▸ Box.alloc_)
              have HG9 := Lib.hid (show wr.heap.size ≤ g9 from hg9 ▸ HBX.out.size)
              try have H9 := Lib.hid (fun (lo : Nat) (_ : wr.heap.size ≤ lo) => (show g9 < lo ∨ x1.heap.size ≤ g9 from .inr (Nat.le_of_eq hg9)))
              try have HGR := Lib.hid (one_below (one_refl x1 g9) hb)
              rw [hW, hg9]
              have HBX := Lib.hid (ext_trans HBX.out hb)
              have hz9 : x1.heap.size ≤ g9 := Nat.le_of_eq hg9
              refine hK (fun b => False ∨ b = g9) _ _ (fun b h => by first | exact .inl h | (simp only [false_or] at h ⊢; omega)) (Mem.of_below hb) ?_
              clear hb hW hg9 hz9
              clear hK K
              try simp only [Act.put, List.setIfInBounds_toArray, List.set_cons_zero, List.set_cons_succ]
              refine rgx_1 6 (by kernel_rfl) ?_
              refine ⟨_, rfl, by rfl, fun K hK => ?_⟩
              obtain ⟨qo, zo, lo⟩ := HB9.out
              go_simp
              have hB := box_put8 HB9.out (.int .i64 43) (.int .i64 E) (.slice none 0 0) (.int .i64 C) (.int .i64 L) (.bool M) (.int .i64 N) (.slice A4 n4 c4)
              have hm := (((((((((Mem.refl (fun b => False ∨ b = g9) x2).of_set (g := g9) (k := 0) (v := .int .i64 43) (by simp)).of_set (g := g9) (k := 1) (v := .int .i64 E) (by simp)).of_set (g := g9) (k := 2) (v := .slice none 0 0) (by simp)).of_set (g := g9) (k := 3) (v := .int .i64 C) (by simp)).of_set (g := g9) (k := 4) (v := .int .i64 L) (by simp)).of_set (g := g9) (k := 5) (v := .bool M) (by simp)).of_set (g := g9) (k := 6) (v := .int .i64 N) (by simp)).of_set (g := g9) (k := 7) (v := .slice A4 n4 c4) (by simp))
              have hbw := below_put8 HBX.out HG9.out (.int .i64 43) (.int .i64 E) (.slice none 0 0) (.int .i64 C) (.int .i64 L) (.bool M) (.int .i64 N) (.slice A4 n4 c4)
              have hgr := (one_set (one_set (one_set (one_set (one_set (one_set (one_set (one_set HGR.out 0 (.int .i64 43)) 1 (.int .i64 E)) 2 (.slice none 0 0)) 3 (.int .i64 C)) 4 (.int .i64 L)) 5 (.bool M)) 6 (.int .i64 N)) 7 (.slice A4 n4 c4))
              obtain ⟨x3, hW⟩ : ∃ W, ((((((((x2.setCell ⟨g9, 0, none⟩ (.int .i64 43)).setCell ⟨g9, 1, none⟩ (.int .i64 E)).setCell ⟨g9, 2, none⟩ (.slice none 0 0)).setCell ⟨g9, 3, none⟩ (.int .i64 C)).setCell ⟨g9, 4, none⟩ (.int .i64 L)).setCell ⟨g9, 5, none⟩ (.bool M)).setCell ⟨g9, 6, none⟩ (.int .i64 N)).setCell ⟨g9, 7, none⟩ (.slice A4 n4 c4)) = W := ⟨_, rfl⟩
              rw [hW] at hB hm hbw hgr ⊢
              have hans := HMV.out wr x3 HLW.out hbw (fun sz k B xs hlo hr => rd_later hr hlo hgr (by first | exact H9.out | exact H9.out _ HLW.out))
              have HBF := Lib.hid hB
              have HAF := Lib.hid hans
              have HWF := Lib.hid hbw
              refine hK (fun b => False ∨ b = g9) _ _ (fun b h => .inl h) hm ?_
              clear hm hW hB hbw hgr hans qo zo lo
              clear hK K
              try simp only [Act.put, List.setIfInBounds_toArray, List.set_cons_zero, List.set_cons_succ]
              refine rgx_d (by kernel_rfl) ?_
              go_wp2_with fail
              go_meet
              case rel => exact ⟨g9, E, C, L, N, M, A4, n4, c4, rfl, HBF.out, HAF.out, HG9.out, HWF.out⟩
            · refine ⟨_, rfl, by rfl, fun K hK => ?_⟩
              go_simp
              obtain ⟨g9, hg9⟩ : ∃ g, x0.heap.size = g := ⟨_, rfl⟩
              obtain ⟨x1, hW⟩ : ∃ W, x0.alloc (.cells #[.int .i64 0, .int .i64 0, .slice none 0 0, .int .i64 0, .int .i64 0, .bool false, .int .i64 0, .slice none 0 0] 42) = W := ⟨_, rfl⟩
              have hb : Below x0.heap.size x0 x1 := hW ▸ (Below.refl _ _).alloc (Nat.le_refl _) _
              have HB9 := Lib.hid (show Box x1 g9 #[.int .i64 0, .int .i64 0, .slice none 0 0, .int .i64 0, .int .i64 0, .bool false, .int .i64 0, .slice none 0 0] from hW ▸ hg9 ▸ Box.alloc_)
              have HG9 := Lib.hid (show wr.heap.size ≤ g9 from hg9 ▸ HBX.out.size)
              try have H9 := Lib.hid (fun (lo : Nat) (_ : wr.heap.size ≤ lo) => (show g9 < lo ∨ x0.heap.size ≤ g9 from .inr (Nat.le_of_eq hg9)))
              try have HGR := Lib.hid (one_below (one_refl x0 g9) hb)
              rw [hW, hg9]
              have HBX := Lib.hid (ext_trans HBX.out hb)
              have hz9 : x0.heap.size ≤ g9 := Nat.le_of_eq hg9
              refine hK (fun b => False ∨ b = g9) _ _ (fun b h => by first | exact .inl h | (simp only [false_or] at h ⊢; omega)) (Mem.of_below hb) ?_
              clear hb hW hg9 hz9
              clear hK K
              try simp only [Act.put, List.setIfInBounds_toArray, List.set_cons_zero, List.set_cons_succ]
              refine rgx_1 4 (by kernel_rfl) ?_
              refine ⟨_, rfl, by rfl, fun K hK => ?_⟩
              go_simp
              refine (HAN2.out _ (ext_trans HBW.out HBX.out)).mono ?_
              intro e x2 hans
              obtain ⟨E, C, L, N, M, A4, n4, c4, rfl, hb, hmv⟩ := hans.open_
              have HMV := Lib.hid hmv
              have HLW := Lib.hid (show wr.heap.size ≤ x1.heap.size from HBX.out.size)
              try have H9 := Lib.hid (show g9 < x1.heap.size ∨ x2.heap.size ≤ g9 from .inl HB9.out.2.2)
              try have HGR := Lib.hid (one_refl x2 g9)
              try have HB9 := Lib.hid (HB9.out.below hb)
              have HBX := Lib.hid (ext_trans HBX.out hb)
              refine hK (fun b => False ∨ b = g9) _ _ (fun b h => .inl h) (Mem.of_below hb) ?_
              clear hb hans hmv
              clear hK K
              try simp only [Act.put, List.setIfInBounds_toArray, List.set_cons_zero, List.set_cons_succ]
              refine rgx_1 6 (by kernel_rfl) ?_
              refine ⟨_, rfl, by rfl, fun K hK => ?_⟩
              obtain ⟨qo, zo, lo⟩ := HB9.out
              go_simp
              have hB := box_put8 HB9.out (.int .i64 43) (.int .i64 E) (.slice none 0 0) (.int .i64 C) (.int .i64 L) (.bool M) (.int .i64 N) (.slice A4 n4 c4)
              have hm := (((((((((Mem.refl (fun b => False ∨ b = g9) x2).of_set (g := g9) (k := 0) (v := .int .i64 43) (by simp)).of_set (g := g9) (k := 1) (v := .int .i64 E) (by simp)).of_set (g := g9) (k := 2) (v := .slice none 0 0) (by simp)).of_set (g := g9) (k := 3) (v := .int .i64 C) (by simp)).of_set (g := g9) (k := 4) (v := .int .i64 L) (by simp)).of_set (g := g9) (k := 5) (v := .bool M) (by simp)).of_set (g := g9) (k := 6) (v := .int .i64 N) (by simp)).of_set (g := g9) (k := 7) (v := .slice A4 n4 c4) (by simp))
              have hbw := below_put8 HBX.out HG9.out (.int .i64 43) (.int .i64 E) (.slice none 0 0) (.int .i64 C) (.int .i64 L) (.bool M) (.int .i64 N) (.slice A4 n4 c4)
              have hgr := (one_set (one_set (one_set (one_set (one_set (one_set (one_set (one_set HGR.out 0 (.int .i64 43)) 1 (.int .i64 E)) 2 (.slice none 0 0)) 3 (.int .i64 C)) 4 (.int .i64 L)) 5 (.bool M)) 6 (.int .i64 N)) 7 (.slice A4 n4 c4))
              obtain ⟨x3, hW⟩ : ∃ W, ((((((((x2.setCell ⟨g9, 0, none⟩ (.int .i64 43)).setCell ⟨g9, 1, none⟩ (.int .i64 E)).setCell ⟨g9, 2, none⟩ (.slice none 0 0)).setCell ⟨g9, 3, none⟩ (.int .i64 C)).setCell ⟨g9, 4, none⟩ (.int .i64 L)).setCell ⟨g9, 5, none⟩ (.bool M)).setCell ⟨g9, 6, none⟩ (.int .i64 N)).setCell ⟨g9, 7, none⟩ (.slice A4 n4 c4)) = W := ⟨_, rfl⟩
              rw [hW] at hB hm hbw hgr ⊢
              have hans := HMV.out wr x3 HLW.out hbw (fun sz k B xs hlo hr => rd_later hr hlo hgr (by first | exact H9.out | exact H9.out _ HLW.out))
              have HBF := Lib.hid hB
              have HAF := Lib.hid hans
              have HWF := Lib.hid hbw
              refine hK (fun b => False ∨ b = g9) _ _ (fun b h => .inl h) hm ?_
              clear hm hW hB hbw hgr hans qo zo lo
              clear hK K
              try simp only [Act.put, List.setIfInBounds_toArray, List.set_cons_zero, List.set_cons_succ]
              refine rgx_d (by kernel_rfl) ?_
              go_wp2_with fail
              go_meet
              case rel => exact ⟨g9, E, C, L, N, M, A4, n4, c4, rfl, HBF.out, HAF.out, HG9.out, HWF.out⟩
          case rest =>
            obtain ⟨g9, E, C, L, N, M, A4, n4, c4, rfl, hb9, hans, hg9, hbx⟩ := hcut
            have hgil := HIT.out.box_lt
            obtain ⟨o, hoV, hoE, hoa, hfed, hpre⟩ := ans_fed (gi := gi) (row := row) hans (fun h0 => by
              have hp := HPL.out
              rcases hp with ⟨_, _, ⟨h, _⟩ | ⟨_, k, hk⟩⟩ | ⟨h, _⟩ | ⟨h, _⟩
              · exact absurd h h0
              · intro hf
                rw [← HASK.out, hk.2.2.2.2.1] at hf
                have := congrArg List.length hf
                simp at this
                have := hk.2.2.2.1
                omega
              · have := HST.out; omega
              · have := HST.out; omega) (by have := HSS.out.2.1; have h2 := HOK.out.2.1.solen; omega) (fun y hy => by
              have h1 := (HOK.out.2.2.1 y hy).1.1
              have h2 := (slSmall_val HSM.out) y hy
              simp at h1; omega) hgil (fun c hc => (HIT.out.row_lt c hc).2)
            have HB9 := Lib.hid hb9
            have HFED := Lib.hid hfed
            have HPRE := Lib.hid hpre
            have HOA := Lib.hid hoa
            have HG9 := Lib.hid hg9
            have HIT2 := Lib.hid (HIT.out.below hbx)
            have HBQ2 := Lib.hid (HBQ.out.below hbx)
            have HSX2 := Lib.hid (HSX.out.below hbx)
            have HBW2 := Lib.hid (ext_trans HBW.out hbx)
            have HE := Lib.hid hoE
            have HV := Lib.hid hoV
            clear hb9 hans hg9 hbx hoa hfed hpre hoE hoV hgil
            obtain ⟨wa, hwa⟩ : ∃ W, W = wc := ⟨_, rfl⟩
            rw [← hwa] at HB9 HFED HIT2 HBQ2 HSX2 HBW2
            subst hwa
            obtain ⟨q9, z9, l9⟩ := HB9.out
            go_upto_if 48 with fail
            go_cut [] (fun x => Box x wa.heap.size (ocArr o) ∧ Below wa.heap.size wa x)
            case first =>
              by_cases hl : S.lv = 0
              · have hE := HE.out
                have hV := HV.out
                rw [if_pos hl] at hE hV
                subst hE
                have hoa := HOA.out
                rw [hV] at hoa
                have HOA2 := Lib.hid hoa
                clear hl hV hoa
                go_wp2_with fail
                go_meet
                case rel => rw [HOA2.out]; exact ⟨Box.alloc_, (Below.refl _ _).alloc (Nat.le_refl _) _⟩
              · have hE := HE.out
                have hV := HV.out
                rw [if_neg hl] at hE hV
                subst hE
                have hoa := HOA.out
                rw [hV] at hoa
                have HOA2 := Lib.hid hoa
                clear hl hV hoa
                go_wp2_with fail
                go_meet
                case rel => rw [HOA2.out]; exact ⟨Box.alloc_, (Below.refl _ _).alloc (Nat.le_refl _) _⟩
            case rest =>
              obtain ⟨hbo, hbo2⟩ := hcut
              have HBO := Lib.hid hbo
              have HFED2 := Lib.hid (HFED.out.below hbo2)
              have HIT3 := Lib.hid (HIT2.out.below hbo2)
              have HBQ3 := Lib.hid (HBQ2.out.below hbo2)
              have HSX3 := Lib.hid (HSX2.out.below hbo2)
              have HBW3 := Lib.hid (ext_trans HBW2.out hbo2)
              clear hbo hbo2 q9 z9 l9
              obtain ⟨qq, zq, lq⟩ := HBQ3.out
              have HVD := Lib.hid (fun (W : World) => valid43 ask hab.1 hab.2 W)
              have kw : IntKind.i64.wrap ((j : Int) + 1) = (j : Int) + 1 := IntWalk.i64_in _ ⟨by omega, by have := HJ.out; omega⟩
              have hPN := PL_next HSB.out HOK.out.2.1.solen HPL.out HST.out o (by rw [HASK.out]; exact HPRE.out)
              have HPN := Lib.hid hPN
              have d32 : decide (32 < (j : Int) + 1) = false := by have := hPN.2; simp; omega
              clear hPN
              have hpf := PL_feed HSB.out HOK.out.2.1.solen HPL.out HST.out
              have HFD := Lib.hid (fun (W : World) (hI : IdAt W gi noF row T) (hf : OcFed W gi row o) => feed_any T gi noF row o W hI HST.out hpf.1 hpf.2.1 hpf.2.2 hf (fun b hb => hb.elim))
              have HGG := Lib.hid (show g < gi from by have h1 := HSX3.out.2.2; have h2 := HGGI.out; exact h2)
              clear hpf
              go_wp2_with fail
              refine (HVD.out _).mono ?_
              rintro e w7 ⟨rfl, hb7⟩
              have HFED4 := Lib.hid (HFED2.out.below hb7)
              have HIT4 := Lib.hid (HIT3.out.below hb7)
              have HBQ4 := Lib.hid (HBQ3.out.below hb7)
              have HSX4 := Lib.hid (HSX3.out.below hb7)
              have HBO4 := Lib.hid (HBO.out.below hb7)
              have HBW4 := Lib.hid (ext_trans HBW3.out hb7)
              clear hb7 qq zq lq
              obtain ⟨qo, zo, lo⟩ := HBO4.out
              unfold ocArr at qo
              go_wp2_with fail
              refine (HFD.out _ HIT4.out HFED4.out).mono ?_
              rintro e w8 ⟨rfl, row', hit8, hrow8, hchg⟩
              have HIT8 := Lib.hid hit8
              have HBQ8 := Lib.hid (HBQ4.out.chg hchg (Ne.symm HNE.out.1) HNE.out.2)
              have HSX8 := Lib.hid (HSX4.out.chg hchg (by have := HGG.out; omega) (fun e2 => by have := (HIT4.out.row_lt g e2.symm).1; have := HGG.out; omega))
              have HBW8 := Lib.hid (below_chg HBW4.out hchg HBW4.out.size HGI.out (fun b hb => by have h1 := (HIT4.out.row_lt b hb).1; have h2 := HGI.out; omega))
              clear hit8 hrow8 hchg qo zo lo
              obtain ⟨qq, zq, lq⟩ := HBQ8.out
              obtain ⟨T', hT'⟩ : ∃ T', stepI T o = T' := ⟨_, rfl⟩
              rw [hT'] at HIT8 HPN
              obtain ⟨f1, c1, a1, hnv, hform⟩ := nextV_form T'
              have HFORM := Lib.hid hform
              have HNX9 := Lib.hid (fun (W : World) (h : IdAt W gi noF row' T') => hnv ▸ next_any T' gi noF row' W h)
              have hba := (Below.refl w8.heap.size w8).alloc (Nat.le_refl _) (.cells #[.int .i64 43, .int .i64 0, .int .i64 0, .int .i64 3, .int .i64 ask] 32)
              have HIT9 := Lib.hid (HIT8.out.below hba)
              have HSX9 := Lib.hid (HSX8.out.below hba)
              have HBW9 := Lib.hid (ext_trans HBW8.out hba)
              have HNB := Lib.hid (Box.alloc_ (w := w8) (cs := #[.int .i64 43, .int .i64 0, .int .i64 0, .int .i64 3, .int .i64 ask]) (e := 32))
              have HGB := Lib.hid (show gi < w8.heap.size from HIT8.out.box_lt)
              have HRB := Lib.hid (fun c hc => (HIT8.out.row_lt c hc).2 : ∀ c, row' = some c → c < w8.heap.size)
              have HITF := Lib.hid (HIT8.out.other (F' := fun b => b = w8.heap.size) (w' := w8.alloc (.cells #[.int .i64 43, .int .i64 0, .int .i64 0, .int .i64 3, .int .i64 ask] 32)) (fun h => h) hba.size (fun b hb _ => hba.block b hb) (fun b hb => .inr (by rw [hb]; exact Nat.le_refl _)))
              clear hT' hnv hform hba
              go_wp2_with fail
              refine (HNX9.out _ HIT9.out).mono ?_
              rintro e w9 ⟨rfl, hb9⟩
              have HIT10 := Lib.hid (HITF.out.below hb9)
              have HSX10 := Lib.hid (HSX9.out.below hb9)
              have HBW10 := Lib.hid (ext_trans HBW9.out hb9)
              have HNB10 := Lib.hid (HNB.out.below hb9)
              clear hb9 qq zq lq
              have hgr := (one_set (one_set (one_set (one_set (one_set (one_refl w9 w8.heap.size) 0 (.int .i64 f1)) 1 (.int .i64 0)) 2 (.int .i64 0)) 3 (.int .i64 c1)) 4 (.int .i64 a1))
              have HNB11 := Lib.hid (box_put5 HNB10.out (.int .i64 f1) (.int .i64 0) (.int .i64 0) (.int .i64 c1) (.int .i64 a1))
              have HIT11 := Lib.hid (HIT10.out.other (F' := noF) (fun h => by have := HGB.out; omega) hgr.size (fun b hb hn => hgr.block b hb (by intro e; injection e with e; exact hn e)) (fun b hb => hb.elim))
              have HSX11 := Lib.hid (HSX10.out.grown hgr (by have := HGG.out; have := HGB.out; omega))
              have HBW11 := Lib.hid (((((HBW10.out.setCell (p := ⟨w8.heap.size, 0, none⟩) HBW8.out.size (.int .i64 f1)).setCell (p := ⟨w8.heap.size, 1, none⟩) HBW8.out.size (.int .i64 0)).setCell (p := ⟨w8.heap.size, 2, none⟩) HBW8.out.size (.int .i64 0)).setCell (p := ⟨w8.heap.size, 3, none⟩) HBW8.out.size (.int .i64 c1)).setCell (p := ⟨w8.heap.size, 4, none⟩) HBW8.out.size (.int .i64 a1))
              clear hgr
              obtain ⟨qn, zn, ln⟩ := HNB10.out
              go_wp2_with fail
              go_roundw
              case rel => exact ⟨j + 1, T', row', w8.heap.size, f1, c1, a1, by go_num, rfl, rfl, by have := HPN.out.2; omega, HFORM.out, HNB11.out, (by have := HGB.out; omega), (fun e => by have := HRB.out _ e.symm; omega), HPN.out.1, HIT11.out, HSX11.out, HBW11.out⟩
              case measure => simp [intOf]; have := HPN.out.2; omega
        · have d0 : decide (T.st = 0) = false := by simpa using hst
          have hfin : ∃ st : Int, T.st = st ∧ (st = if S.lv = 0 then 5 else 2) ∧ resL T = S.lv ∧ resO T = con S.obs := by
            rcases HPL.out with ⟨h, _⟩ | ⟨h, h0⟩ | ⟨h, h0, h1, h2⟩
            · exact absurd h hst
            · refine ⟨5, h, by rw [if_pos h0], ?_, ?_⟩
              · rw [resL, if_neg (by omega), h0]
              · have hm := (slB_of HSB.out).2.2.1
                simp only [midB, Bool.and_eq_true, h0, decide_true, Bool.true_and, Bool.not_eq_true', decide_eq_false_iff_not, Decidable.not_not] at hm
                have hl := HOK.out.2.1.solen
                have : S.obs = [] := List.eq_nil_of_length_eq_zero (by omega)
                rw [resO, if_neg (by omega), this]; rfl
            · exact ⟨2, h, by rw [if_neg h0], by rw [resL, if_pos h, h1], by rw [resO, if_pos h, h2]⟩
          obtain ⟨st, hst2, hst3, hrl, hro⟩ := hfin
          have HRS := Lib.hid (result_any T gi noF row wr HIT.out (fun h2 => by
            rcases HPL.out with ⟨h, _⟩ | ⟨h, h0⟩ | ⟨h, h0, h1, h3⟩
            · omega
            · omega
            · rw [h3]
              have hl := HOK.out.2.1.solen
              have h4 := HSS.out.2.1
              refine ⟨by simp [con]; omega, fun x hx => ?_⟩
              obtain ⟨y, hy, rfl⟩ := List.mem_map.1 hx
              have h5 := (HOK.out.2.2.1 y hy).1.1
              have h6 := slSmall_val HSM.out y hy
              simp at h5
              show y.val.length ≤ 300
              omega))
          obtain ⟨lv, hlv⟩ : ∃ z, S.lv = z := ⟨_, rfl⟩
          rw [hlv] at hst3 hrl
          have HST3 := Lib.hid hst3
          have HRL := Lib.hid hrl
          have HRO := Lib.hid hro
          have HST2 := Lib.hid hst2
          have HLVE := Lib.hid hlv
          rw [d0]
          clear hst hst2 hst3 hrl hro hlv d0
          go_wp2_with fail
          refine HRS.out.mono ?_
          rintro e w6 ⟨A6, n6, c6, l6, rfl, hob6, hln6, hcon6, hb6⟩
          rw [HST2.out, HRL.out]
          have HSX6 := Lib.hid (HSX.out.below hb6)
          have HBW6 := Lib.hid (ext_trans HBW.out hb6)
          have c15 : w6.cell? ⟨g, 15, none⟩ = some (.int .i64 lv) := by rw [← HLVE.out]; exact HSX6.out.1 15
          have hgl := HSX6.out.2.2
          have HOB6 := Lib.hid hob6
          obtain rfl : n6 = S.on_ := by
            have h1 := congrArg List.length (hcon6.trans HRO.out)
            simp only [con, List.length_map] at h1
            have h2 := HOK.out.2.1.solen
            omega
          have HLN6 := Lib.hid hln6
          have HCN6 := Lib.hid hcon6
          clear hob6 hln6 hcon6 hb6
          by_cases hl : lv = 0
          · subst hl
            have hs := HST3.out
            rw [if_pos rfl] at hs
            subst hs
            go_wp2_with fail
            refine (awake_any _).mono ?_
            rintro e w7 ⟨rfl, hb7⟩
            have HSX7 := Lib.hid (HSX6.out.below hb7)
            have HBW7 := Lib.hid (ext_trans HBW6.out hb7)
            have HOB7 := Lib.hid (HOB6.out.below hb7)
            clear hb7 c15 hgl
            have c15 : w7.cell? ⟨g, 15, none⟩ = some (.int .i64 0) := by rw [← HLVE.out]; exact HSX7.out.1 15
            have c16 : w7.cell? ⟨g, 16, none⟩ = some (.slice S.oA S.on_ S.oc) := HSX7.out.1 16
            have hgl := HSX7.out.2.2
            have hokw := HOKW.out w7 HBW7.out
            have hol := HOK.out.2.1.solen
            have HSM7 := Lib.hid (same_any l6 S.obs A6 S.oA S.on_ c6 S.oc w7 HOB7.out ⟨by rw [hol]; exact hokw.2.1, fun y hy => (hokw.2.2.1 y hy).1⟩ HLN6.out (by
              have h1 := congrArg List.length (HCN6.out.trans HRO.out)
              simp only [con, List.length_map] at h1
              have := HLN6.out
              have := HSS.out.2.1
              omega) (HCN6.out.trans HRO.out))
            clear hokw hol
            go_wp2_with fail
            refine HSM7.out.mono ?_
            rintro e w8 ⟨rfl, hb8⟩
            have HFIN := Lib.hid (ext_trans HBW7.out hb8)
            clear hb8
            go_wp2
            go_ret
            exact ⟨rfl, HFIN.out⟩
          · have hs := HST3.out
            rw [if_neg hl] at hs
            subst hs
            have d9 : (lv == 0) = false := by simpa using hl
            go_wp2_with fail
            refine (awake_any _).mono ?_
            rintro e w7 ⟨rfl, hb7⟩
            have HSX7 := Lib.hid (HSX6.out.below hb7)
            have HBW7 := Lib.hid (ext_trans HBW6.out hb7)
            have HOB7 := Lib.hid (HOB6.out.below hb7)
            clear hb7 c15 hgl
            have c15 : w7.cell? ⟨g, 15, none⟩ = some (.int .i64 lv) := by rw [← HLVE.out]; exact HSX7.out.1 15
            have c16 : w7.cell? ⟨g, 16, none⟩ = some (.slice S.oA S.on_ S.oc) := HSX7.out.1 16
            have hgl := HSX7.out.2.2
            have hokw := HOKW.out w7 HBW7.out
            have hol := HOK.out.2.1.solen
            have HSM7 := Lib.hid (same_any l6 S.obs A6 S.oA S.on_ c6 S.oc w7 HOB7.out ⟨by rw [hol]; exact hokw.2.1, fun y hy => (hokw.2.2.1 y hy).1⟩ HLN6.out (by
              have h1 := congrArg List.length (HCN6.out.trans HRO.out)
              simp only [con, List.length_map] at h1
              have := HLN6.out
              have := HSS.out.2.1
              omega) (HCN6.out.trans HRO.out))
            clear hokw hol
            go_wp2_with fail
            refine HSM7.out.mono ?_
            rintro e w8 ⟨rfl, hb8⟩
            have HFIN := Lib.hid (ext_trans HBW7.out hb8)
            clear hb8
            go_wp2
            go_ret
            exact ⟨rfl, HFIN.out⟩
end Go.Proofs.Ytpbmolijoadonaa

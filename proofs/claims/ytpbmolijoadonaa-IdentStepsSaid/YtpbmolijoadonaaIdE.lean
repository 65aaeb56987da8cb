/- Layer 22: the law IdentEnds. -/
import Derived.Test.YtpbmolijoadonaaIdC
import Derived.Test.YtpbmolijoadonaaIdK
import Derived.Test.YtpbmolijoadonaaIdG
import Derived.Test.YtpbmolijoadonaaIdP
import Derived.Test.YtpbmolijoadonaaMake
set_option linter.unusedVariables false
set_option linter.unusedSimpArgs false
namespace Go.Proofs.Ytpbmolijoadonaa
open Go.RowKit

theorem mod_eq (x n r : Int) (hn : 1 ≤ n) (hn2 : n ≤ 1000000000) (h : x % n = r) (w : World) : Calls Try.prog 17 #[.int .i64 x, .int .i64 n] w fun e w' => e = .returned (.int .i64 r) ∧ w = w' := by
  subst h; exact mod_any x n hn hn2 w
theorem box_put9 {w : World} {b : Nat} {c0 c1 c2 c3 c4 c5 c6 c7 c8 : Value} (h : Box w b #[c0, c1, c2, c3, c4, c5, c6, c7, c8]) (v0 v1 v2 v3 v4 v5 v6 v7 v8 : Value) :
    Box (((((((((w.setCell ⟨b, 0, none⟩ v0).setCell ⟨b, 1, none⟩ v1).setCell ⟨b, 2, none⟩ v2).setCell ⟨b, 3, none⟩ v3).setCell ⟨b, 4, none⟩ v4).setCell ⟨b, 5, none⟩ v5).setCell ⟨b, 6, none⟩ v6).setCell ⟨b, 7, none⟩ v7).setCell ⟨b, 8, none⟩ v8) b #[v0, v1, v2, v3, v4, v5, v6, v7, v8] :=
  ((((((((h.set (k := 0) (v := v0) (cs' := #[v0, c1, c2, c3, c4, c5, c6, c7, c8]) (by simp) rfl).set (k := 1) (v := v1) (cs' := #[v0, v1, c2, c3, c4, c5, c6, c7, c8]) (by simp) rfl).set (k := 2) (v := v2) (cs' := #[v0, v1, v2, c3, c4, c5, c6, c7, c8]) (by simp) rfl).set (k := 3) (v := v3) (cs' := #[v0, v1, v2, v3, c4, c5, c6, c7, c8]) (by simp) rfl).set (k := 4) (v := v4) (cs' := #[v0, v1, v2, v3, v4, c5, c6, c7, c8]) (by simp) rfl).set (k := 5) (v := v5) (cs' := #[v0, v1, v2, v3, v4, v5, c6, c7, c8]) (by simp) rfl).set (k := 6) (v := v6) (cs' := #[v0, v1, v2, v3, v4, v5, v6, c7, c8]) (by simp) rfl).set (k := 7) (v := v7) (cs' := #[v0, v1, v2, v3, v4, v5, v6, v7, c8]) (by simp) rfl).set (k := 8) (v := v8) (cs' := #[v0, v1, v2, v3, v4, v5, v6, v7, v8]) (by simp) rfl
theorem below_put9 {w0 w : World} {B b : Nat} (h : Below B w0 w) (hb : B ≤ b) (v0 v1 v2 v3 v4 v5 v6 v7 v8 : Value) :
    Below B w0 (((((((((w.setCell ⟨b, 0, none⟩ v0).setCell ⟨b, 1, none⟩ v1).setCell ⟨b, 2, none⟩ v2).setCell ⟨b, 3, none⟩ v3).setCell ⟨b, 4, none⟩ v4).setCell ⟨b, 5, none⟩ v5).setCell ⟨b, 6, none⟩ v6).setCell ⟨b, 7, none⟩ v7).setCell ⟨b, 8, none⟩ v8) :=
  ((((((((h.setCell (p := ⟨b, 0, none⟩) hb v0).setCell (p := ⟨b, 1, none⟩) hb v1).setCell (p := ⟨b, 2, none⟩) hb v2).setCell (p := ⟨b, 3, none⟩) hb v3).setCell (p := ⟨b, 4, none⟩) hb v4).setCell (p := ⟨b, 5, none⟩) hb v5).setCell (p := ⟨b, 6, none⟩) hb v6).setCell (p := ⟨b, 7, none⟩) hb v7).setCell (p := ⟨b, 8, none⟩) hb v8
theorem box_off9 {w : World} {b c : Nat} {cs : Array Value} (h : Box w c cs) (hc : c ≠ b) (v0 v1 v2 v3 v4 v5 v6 v7 v8 : Value) :
    Box (((((((((w.setCell ⟨b, 0, none⟩ v0).setCell ⟨b, 1, none⟩ v1).setCell ⟨b, 2, none⟩ v2).setCell ⟨b, 3, none⟩ v3).setCell ⟨b, 4, none⟩ v4).setCell ⟨b, 5, none⟩ v5).setCell ⟨b, 6, none⟩ v6).setCell ⟨b, 7, none⟩ v7).setCell ⟨b, 8, none⟩ v8) c cs :=
  h.grown (one_set (one_set (one_set (one_set (one_set (one_set (one_set (one_set (one_set (one_refl w b) 0 v0) 1 v1) 2 v2) 3 v3) 4 v4) 5 v5) 6 v6) 7 v7) 8 v8) hc
/-- An outcome of the arguments is fed. -/
theorem Oc.fed {w W : World} {g : Nat} {row : Option Nat} {o : Oc} (h : o.ok w w.heap.size) (hs : ocSmall o = true) (hb : Below w.heap.size w W) (hg : w.heap.size ≤ g) (hr : ∀ c, row = some c → g + 1 ≤ c) : OcFed W g row o ∧ (∀ x ∈ o.os, x.val.length ≤ 300) ∧ o.N ≤ 9223372036854775807 := by
  obtain ⟨o1, o2, o3, o4, o5, o6, o7, o8, o9, o10, o11, o12, o13, o14⟩ := h
  simp only [ocSmall, objSmall, Bool.and_eq_true, decide_eq_true_eq, List.all_eq_true] at hs
  have hv : Vals W g row (fun _ => False) o.os := fun x hx => by
    obtain ⟨k1, _⟩ := o6 x hx
    refine ⟨(k1.below hb (Nat.le_refl _)).more hb.size, fun hn b off e => ?_⟩
    obtain ⟨b2, off2, e2, hb2, _⟩ := k1.2 hn
    rw [e] at e2
    injection e2 with e2
    injection e2 with e3 _
    subst e3
    exact ⟨by omega, fun e4 => by have := hr b e4.symm; omega, fun h => h⟩
  refine ⟨⟨(o7.below hb (Nat.le_refl _)).more hb.size, fun hn b off e => ?_, by simpa using hs.2.2, hv, fun x hx => by simpa using hs.2.1 x hx⟩, fun x hx => ?_, (wf_i64' o14).2⟩
  · obtain ⟨b2, off2, e2, hb2, _⟩ := o7.2 hn
    rw [e] at e2
    injection e2 with e2
    injection e2 with e3 _
    subst e3
    exact ⟨by omega, fun e4 => by have := hr b e4.symm; omega⟩
  · have h1 := (o6 x hx).1.1
    have h2 : x.n ≤ 300 := by simpa using hs.2.1 x hx
    simp at h1
    omega

/-- The outcome in block bo may be fed. -/
def FedB (w0 x : World) (g : Nat) (row : Option Nat) (bo : Nat) : Prop := ∃ o : Oc, Box x bo (ocArr o) ∧ OcFed x g row o ∧ (∀ v ∈ o.os, v.val.length ≤ 300) ∧ o.N ≤ 9223372036854775807 ∧ Below w0.heap.size w0 x ∧ w0.heap.size ≤ bo
theorem fedB_one {w0 x : World} {g bo bs : Nat} {row : Option Nat} {ask lw nx : Int} (h : Box x bo #[.int .i64 1, .int .i64 43, .int .i64 0, .slice none 0 0, .int .i64 3, .int .i64 lw, .bool true, .int .i64 nx, .slice (some ⟨bs, 0, none⟩) 1 1]) (hs : Box x bs #[.int .i64 ask, .slice none 0 0]) (hn : nx ≤ 255) (hb : Below w0.heap.size w0 x) (hbo : w0.heap.size ≤ bo) (hbs : w0.heap.size ≤ bs) (hg : g < w0.heap.size) (hr : ∀ c, row = some c → c < w0.heap.size) : FedB w0 x g row bo := by
  refine ⟨⟨1, 43, 0, none, 0, 0, 3, lw, true, nx, some ⟨bs, 0, none⟩, 1, [], [⟨ask, none, 0, 0, []⟩]⟩, h, ⟨⟨rfl, fun _ => ⟨bs, 0, rfl, hs.2.2, fun j u hu => ?_⟩⟩, fun _ b off e => ?_, by simp, Vals.nils (by simp), by simp⟩, by simp, by show nx ≤ 9223372036854775807; omega, hb, hbo⟩
  · rw [Nat.zero_add, hs.1 j, ← hu]
    simp [obCells, obRow]
  · injection e with e
    injection e with e
    subst e
    exact ⟨by omega, fun e => by have := hr _ e.symm; omega⟩
set_option maxRecDepth 100000 in
set_option maxHeartbeats 16000000 in
theorem lawEnds_any (l : List Oc) (A : Option Addr) (c : Nat) (lv0 st0 : Int) (w : World) (hr : Rd w w.heap.size 9 A l.length (ocCells l)) (hm : l.length ≤ maxLen) (hok : ∀ o ∈ l, o.ok w w.heap.size) :
    Calls Try.prog 4 #[.slice A l.length c, .int .i64 lv0, .int .i64 st0] w fun e w' => e = .returned (.bool true) ∧ Below w.heap.size w w' := by
  obtain ⟨b, hb⟩ : ∃ b, outSmall l 40 = b := ⟨_, rfl⟩
  have HOUT := Lib.hid (outcomes_any l A c w.heap.size 40 w hr hm (by decide) hok b hb)
  obtain ⟨rs, hrs⟩ : ∃ r, st0 % 7 = r := ⟨_, rfl⟩
  obtain ⟨rl, hrl⟩ : ∃ r, lv0 % 3 = r := ⟨_, rfl⟩
  have b1 : (0 ≤ rs ∧ rs < 7) ∧ (0 ≤ rl ∧ rl < 3) := by omega
  obtain ⟨⟨b11, b12⟩, ⟨b21, b22⟩⟩ := b1
  have HMS := Lib.hid (fun w => mod_eq st0 7 rs (by omega) (by omega) hrs w)
  have HML := Lib.hid (fun w => mod_eq lv0 3 rl (by omega) (by omega) hrl w)
  obtain ⟨n, hn⟩ : ∃ n, l.length = n := ⟨_, rfl⟩
  have HR := Lib.hid hr
  have HOK := Lib.hid hok
  have HNL := Lib.hid hn
  rw [hn] at HOUT HR ⊢
  have hm2 : n ≤ 9223372036854775807 := by unfold maxLen at hm; omega
  cases b
  · clear hr hok hb hrs hrl hn hm
    go_enter Try.func4, Try.ntmps4
    go_wp2_with fail
    refine HOUT.out.mono ?_
    rintro e w1 ⟨rfl, hb1⟩
    go_wp2_with fail
    refine (awake_any _).mono ?_
    rintro e w2 ⟨rfl, hb2⟩
    go_wp2
    go_ret
    exact ⟨rfl, ext_trans hb1 hb2⟩
  · have hsm : ∀ o ∈ l, ocSmall o = true := by
      simp only [outSmall, Bool.and_eq_true, List.all_eq_true] at hb
      exact hb.1
    have HSM := Lib.hid hsm
    clear hr hok hb hrs hrl hn hm hsm
    go_enter Try.func4, Try.ntmps4
    go_wp2_with fail
    refine HOUT.out.mono ?_
    rintro e w1 ⟨rfl, hb1⟩
    go_wp2_with fail
    refine (new_any _).mono ?_
    rintro e w2 ⟨g, rfl, hg, hI, hb2⟩
    have hbw2 := ext_trans hb1 hb2
    have HI2 := Lib.hid (hI noF)
    have hgb : w.heap.size ≤ g := by have := hb1.size; omega
    clear hI hb1 hb2 hg HOUT
    go_wp2_with fail
    refine (HMS.out _).mono ?_
    rintro e w3 ⟨rfl, rfl⟩
    go_wp2_with fail
    go_loopw [8, 9, 10, 11] (fun kk p ok op wr => ∃ (k : Nat) (S : Ist) (row : Option Nat), kk = .int .i64 k ∧ k ≤ 32 ∧ EInv k S ∧ IdAt wr g noF row S ∧ Below w.heap.size w wr) (fun kk _ _ _ _ => 32 - (intOf kk).toNat)
    case atStart => exact ⟨0, S0, none, rfl, by omega, e_zero, HI2.out, hbw2⟩
    case round =>
      obtain ⟨k, S, row, rfl, hk, hE, hI, hbw⟩ := hrel
      have HI := Lib.hid hI
      have HE := Lib.hid hE
      clear hI hE HI2 hbw2
      by_cases hc : k < 32 ∧ S.st = 0
      · obtain ⟨hlt, hst⟩ := hc
        have hask : 0 ≤ S.ask ∧ S.ask ≤ 9223372036854775807 := by
          rcases HE.out.2 with h | h | h | h
          · exact h.2.2.1
          · omega
          · omega
          · omega
        have hcn : S.cnt = k := by
          rcases HE.out.2 with h | h | h | h
          · exact h.2.1
          · omega
          · omega
          · omega
        obtain ⟨ask, hak⟩ : ∃ a, S.ask = a := ⟨_, rfl⟩
        rw [hak] at hask
        obtain ⟨ha1, ha2⟩ := hask
        have hnv : nextV S = .tuple #[.agg #[.int .i64 43, .int .i64 0, .int .i64 0, .int .i64 3, .int .i64 ask], .bool true] := by rw [nextV, if_pos hst, hak]; rfl
        have HNX := Lib.hid (next_any S g noF row wr HI.out)
        rw [hnv] at HNX
        have HST := Lib.hid hst
        have HAK := Lib.hid hak
        have HCN := Lib.hid hcn
        clear hst hnv hak hcn
        go_wp2_with fail
        refine HNX.out.mono ?_
        rintro e w3 ⟨rfl, hb3⟩
        go_upto_region 12 with fail
        have hgwr := HI.out.box_lt
        have hrwr := Lib.hid (fun c hc => (HI.out.row_lt c hc).2 : ∀ c, row = some c → c < wr.heap.size)
        obtain ⟨bq, hbq⟩ : ∃ bq, w3.heap.size = bq := ⟨_, rfl⟩
        rw [hbq]
        have HBQ := Lib.hid hbq
        clear hbq
        go_cut [11] (fun op x => ∃ bo : Nat, op = .pointer (some ⟨bo, 0, none⟩) ∧ FedB wr x g row bo)
        case first =>
         have hb4 : Below wr.heap.size wr (w3.alloc (.cells #[.int .i64 43, .int .i64 0, .int .i64 0, .int .i64 3, .int .i64 ask] 32)).drew := below_drew (ext_alloc hb3 _)
         have hB4 : Box (w3.alloc (.cells #[.int .i64 43, .int .i64 0, .int .i64 0, .int .i64 3, .int .i64 ask] 32)).drew w3.heap.size #[.int .i64 43, .int .i64 0, .int .i64 0, .int .i64 3, .int .i64 ask] := Box.drew Box.alloc_
         have HI4 := Lib.hid (HI.out.below hb4)
         have hbw4 := ext_trans hbw hb4
         obtain ⟨nx, hnx⟩ : ∃ nx, (if IntKind.i64.wrap (ask + (1 + rs)) < 255 then IntKind.i64.wrap (ask + (1 + rs)) else 255) = nx := ⟨_, rfl⟩
         obtain ⟨lw, hlw⟩ : ∃ lw, IntKind.i64.wrap (1 + rl) = lw := ⟨_, rfl⟩
         have HLW := Lib.hid hlw
         have hnxb : nx ≤ 255 := by rw [← hnx]; split <;> omega
         have HNX2 := Lib.hid hnx
         have HB4w := Lib.hid hb4
         obtain ⟨x0, hx0⟩ : ∃ x, (w3.alloc (.cells #[.int .i64 43, .int .i64 0, .int .i64 0, .int .i64 3, .int .i64 ask] 32)).drew = x := ⟨_, rfl⟩
         rw [hx0] at HI4 hbw4 hB4 HB4w
         rw [HBQ.out] at hB4
         obtain ⟨qq, zq, lq⟩ := hB4
         have y4 : x0.cell? ⟨bq, 4, none⟩ = some (.int .i64 ask) := qq 4
         have HBW := Lib.hid (Below.refl x0.heap.size x0)
         clear hb3 hb4 HI hbw HNX qq zq hnx hlw
         refine rgx_start (by kernel_rfl) ?_
         rw [hx0]
         refine rgx_t (v := ?_) (some 39) 0 (by kernel_rfl) rfl rfl (.inl ⟨by rfl, fun w' q => ?_⟩) ?_
         rotate_left
         · go_simp <;> with_reducible rfl
         try simp only [Act.put, List.setIfInBounds_toArray, List.set_cons_zero, List.set_cons_succ]
         refine rgx_q (v := ?_) (some 40) 1 (by kernel_rfl) rfl rfl (by rfl) (fun w' hw K hK => ?_) ?_
         rotate_left
         · go_simp
           refine (HML.out _).mono ?_
           rintro e w1 ⟨rfl, rfl⟩
           exact hK
         try simp only [Act.put, List.setIfInBounds_toArray, List.set_cons_zero, List.set_cons_succ]
         refine rgx_t (v := ?_) (some 41) 2 (by kernel_rfl) rfl rfl (.inl ⟨by rfl, fun w' q => ?_⟩) ?_
         rotate_left
         · go_simp <;> with_reducible rfl
         try simp only [Act.put, List.setIfInBounds_toArray, List.set_cons_zero, List.set_cons_succ]
         refine rgx_t (v := ?_) (some 42) 3 (by kernel_rfl) rfl rfl (.inl ⟨by rfl, fun w' q => ?_⟩) ?_
         rotate_left
         · go_simp <;> with_reducible rfl
         try simp only [Act.put, List.setIfInBounds_toArray, List.set_cons_zero, List.set_cons_succ]
         refine rgx_t (v := ?_) (some 43) 4 (by kernel_rfl) rfl rfl (.inl ⟨by rfl, fun w' q => ?_⟩) ?_
         rotate_left
         · go_simp <;> with_reducible rfl
         try simp only [Act.put, List.setIfInBounds_toArray, List.set_cons_zero, List.set_cons_succ]
         refine rgx_t (v := ?_) (some 44) 5 (by kernel_rfl) rfl rfl (.inl ⟨by rfl, fun w' q => ?_⟩) ?_
         rotate_left
         · go_simp <;> with_reducible rfl
         try simp only [Act.put, List.setIfInBounds_toArray, List.set_cons_zero, List.set_cons_succ]
         refine rgx_t (v := ?_) (some 45) 6 (by kernel_rfl) rfl rfl (.inl ⟨by rfl, fun w' q => ?_⟩) ?_
         rotate_left
         · go_simp <;> with_reducible rfl
         try simp only [Act.put, List.setIfInBounds_toArray, List.set_cons_zero, List.set_cons_succ]
         refine rgx_t (v := ?_) (some 46) 7 (by kernel_rfl) rfl rfl (.inl ⟨by rfl, fun w' q => ?_⟩) ?_
         rotate_left
         · go_simp <;> with_reducible rfl
         try simp only [Act.put, List.setIfInBounds_toArray, List.set_cons_zero, List.set_cons_succ]
         refine rgx_t (v := ?_) (some 47) 8 (by kernel_rfl) rfl rfl (.inl ⟨by rfl, fun w' q => ?_⟩) ?_
         rotate_left
         · go_simp <;> with_reducible rfl
         try simp only [Act.put, List.setIfInBounds_toArray, List.set_cons_zero, List.set_cons_succ]
         refine rgx_t (v := ?_) (some 48) 9 (by kernel_rfl) rfl rfl (.inl ⟨by rfl, fun w' q => ?_⟩) ?_
         rotate_left
         · go_simp <;> with_reducible rfl
         try simp only [Act.put, List.setIfInBounds_toArray, List.set_cons_zero, List.set_cons_succ]
         refine rgx_t (v := ?_) (some 49) 10 (by kernel_rfl) rfl rfl (.inl ⟨by rfl, fun w' q => ?_⟩) ?_
         rotate_left
         · go_simp <;> with_reducible rfl
         try simp only [Act.put, List.setIfInBounds_toArray, List.set_cons_zero, List.set_cons_succ]
         refine rgx_2 11 14 (by kernel_rfl) ?_ ?_
         · refine ⟨_, rfl, by rfl, fun K hK => ?_⟩
           go_simp
           have hb := (Below.refl x0.heap.size x0).alloc (Nat.le_refl _) (.cells #[.int .i64 ask, .slice none 0 0] 48)
           obtain ⟨bs, hbs⟩ : ∃ bs, x0.heap.size = bs := ⟨_, rfl⟩
           have hBs : Box (x0.alloc (.cells #[.int .i64 ask, .slice none 0 0] 48)) bs #[.int .i64 ask, .slice none 0 0] := by rw [← hbs]; exact Box.alloc_
           have hsx : x0.heap.size ≤ bs := by rw [← hbs]; exact HBW.out.size
           have HBW := Lib.hid (ext_trans HBW.out hb)
           try have HBO := Lib.hid (HBO.out.below hb)
           obtain ⟨x1, hW⟩ : ∃ W, x0.alloc (.cells #[.int .i64 ask, .slice none 0 0] 48) = W := ⟨_, rfl⟩
           rw [hW] at HBW hBs hb ⊢
           try rw [hW] at HBO
           rw [hbs]
           have HBS := Lib.hid hBs
           refine hK (fun b => False) _ _ (fun b h => .inl h) (Mem.of_below hb) ?_
           clear hb hBs hW hbs
           clear hK K
           try simp only [Act.put, List.setIfInBounds_toArray, List.set_cons_zero, List.set_cons_succ]
           refine rgx_t (v := ?_) (some 51) 12 (by kernel_rfl) rfl rfl (.inl ⟨by rfl, fun w' q => ?_⟩) ?_
           rotate_left
           · go_simp <;> with_reducible rfl
           try simp only [Act.put, List.setIfInBounds_toArray, List.set_cons_zero, List.set_cons_succ]
           refine rgx_t (v := ?_) (some 52) 13 (by kernel_rfl) rfl rfl (.inl ⟨by rfl, fun w' q => ?_⟩) ?_
           rotate_left
           · go_simp <;> with_reducible rfl
           try simp only [Act.put, List.setIfInBounds_toArray, List.set_cons_zero, List.set_cons_succ]
           refine rgx_1 14 (by kernel_rfl) ?_
           refine ⟨_, rfl, by rfl, fun K hK => ?_⟩
           go_simp
           have hb := (Below.refl x1.heap.size x1).alloc (Nat.le_refl _) (.cells #[.int .i64 0, .int .i64 0, .int .i64 0, .slice none 0 0, .int .i64 0, .int .i64 0, .bool false, .int .i64 0, .slice none 0 0] 44)
           obtain ⟨bo, hbo⟩ : ∃ bo, x1.heap.size = bo := ⟨_, rfl⟩
           have hBo : Box (x1.alloc (.cells #[.int .i64 0, .int .i64 0, .int .i64 0, .slice none 0 0, .int .i64 0, .int .i64 0, .bool false, .int .i64 0, .slice none 0 0] 44)) bo #[.int .i64 0, .int .i64 0, .int .i64 0, .slice none 0 0, .int .i64 0, .int .i64 0, .bool false, .int .i64 0, .slice none 0 0] := by rw [← hbo]; exact Box.alloc_
           have hox : x0.heap.size ≤ bo := by rw [← hbo]; exact HBW.out.size
           have HBW := Lib.hid (ext_trans HBW.out hb)
           try have HBS := Lib.hid (HBS.out.below hb)
           obtain ⟨x2, hW⟩ : ∃ W, x1.alloc (.cells #[.int .i64 0, .int .i64 0, .int .i64 0, .slice none 0 0, .int .i64 0, .int .i64 0, .bool false, .int .i64 0, .slice none 0 0] 44) = W := ⟨_, rfl⟩
           rw [hW] at HBW hBo hb ⊢
           try rw [hW] at HBS
           rw [hbo]
           have HBO := Lib.hid hBo
           refine hK (fun b => False ∨ b = bo) _ _ (fun b h => by first | exact .inl h | (rcases h with h | h; exact .inl h; exact .inr (by omega))) (Mem.of_below hb) ?_
           clear hb hBo hW hbo
           clear hK K
           try simp only [Act.put, List.setIfInBounds_toArray, List.set_cons_zero, List.set_cons_succ]
           refine rgx_1 15 (by kernel_rfl) ?_
           refine ⟨_, rfl, by rfl, fun K hK => ?_⟩
           obtain ⟨qo, zo, lo⟩ := HBO.out
           go_simp
           rw [HLW.out, HNX2.out]
           have hBf := box_put9 HBO.out (.int .i64 1) (.int .i64 43) (.int .i64 0) (.slice none 0 0) (.int .i64 3) (.int .i64 lw) (.bool true) (.int .i64 nx) (.slice (some ⟨bs, 0, none⟩) 1 1)
           have hbf := below_put9 HBW.out hox (.int .i64 1) (.int .i64 43) (.int .i64 0) (.slice none 0 0) (.int .i64 3) (.int .i64 lw) (.bool true) (.int .i64 nx) (.slice (some ⟨bs, 0, none⟩) 1 1)
           have hm : Mem (fun b => False ∨ b = bo) x2 (((((((((x2.setCell ⟨bo, 0, none⟩ (.int .i64 1)).setCell ⟨bo, 1, none⟩ (.int .i64 43)).setCell ⟨bo, 2, none⟩ (.int .i64 0)).setCell ⟨bo, 3, none⟩ (.slice none 0 0)).setCell ⟨bo, 4, none⟩ (.int .i64 3)).setCell ⟨bo, 5, none⟩ (.int .i64 lw)).setCell ⟨bo, 6, none⟩ (.bool true)).setCell ⟨bo, 7, none⟩ (.int .i64 nx)).setCell ⟨bo, 8, none⟩ (.slice (some ⟨bs, 0, none⟩) 1 1)) := ((((((((((Mem.refl _ _).of_set (.inr rfl)).of_set (.inr rfl)).of_set (.inr rfl)).of_set (.inr rfl)).of_set (.inr rfl)).of_set (.inr rfl)).of_set (.inr rfl)).of_set (.inr rfl)).of_set (.inr rfl))
           have hsb : bs ≠ bo := fun e => by have h1 := HBS.out.1 5; have h2 := HBO.out.1 5; rw [e, h2] at h1; cases h1
           have hBs9 := box_off9 HBS.out hsb (.int .i64 1) (.int .i64 43) (.int .i64 0) (.slice none 0 0) (.int .i64 3) (.int .i64 lw) (.bool true) (.int .i64 nx) (.slice (some ⟨bs, 0, none⟩) 1 1)
           obtain ⟨x3, hW⟩ : ∃ W, (((((((((x2.setCell ⟨bo, 0, none⟩ (.int .i64 1)).setCell ⟨bo, 1, none⟩ (.int .i64 43)).setCell ⟨bo, 2, none⟩ (.int .i64 0)).setCell ⟨bo, 3, none⟩ (.slice none 0 0)).setCell ⟨bo, 4, none⟩ (.int .i64 3)).setCell ⟨bo, 5, none⟩ (.int .i64 lw)).setCell ⟨bo, 6, none⟩ (.bool true)).setCell ⟨bo, 7, none⟩ (.int .i64 nx)).setCell ⟨bo, 8, none⟩ (.slice (some ⟨bs, 0, none⟩) 1 1)) = W := ⟨_, rfl⟩
           rw [hW] at hBf hbf hm hBs9 ⊢
           have HBF := Lib.hid hBf
           have HBT := Lib.hid hBs9
           refine hK (fun b => False ∨ b = bo) _ _ (fun b h => .inl h) hm ?_
           clear qo zo lo hm hW hBf hBs9
           clear hK K
           try simp only [Act.put, List.setIfInBounds_toArray, List.set_cons_zero, List.set_cons_succ]
           refine rgx_d (by kernel_rfl) ?_
           go_wp2_with fail
           go_meet
           case rel => exact ⟨bo, rfl, fedB_one HBF.out HBT.out hnxb (HB4w.out.trans (hbf.mono HB4w.out.size)) (Nat.le_trans HB4w.out.size hox) (Nat.le_trans HB4w.out.size hsx) hgwr hrwr.out⟩
         · refine ⟨_, rfl, by rfl, fun K hK => ?_⟩
           go_simp
           have hb := (Below.refl x0.heap.size x0).alloc (Nat.le_refl _) (.cells #[.int .i64 0, .int .i64 0, .int .i64 0, .slice none 0 0, .int .i64 0, .int .i64 0, .bool false, .int .i64 0, .slice none 0 0] 44)
           obtain ⟨bo, hbo⟩ : ∃ bo, x0.heap.size = bo := ⟨_, rfl⟩
           have hBo : Box (x0.alloc (.cells #[.int .i64 0, .int .i64 0, .int .i64 0, .slice none 0 0, .int .i64 0, .int .i64 0, .bool false, .int .i64 0, .slice none 0 0] 44)) bo #[.int .i64 0, .int .i64 0, .int .i64 0, .slice none 0 0, .int .i64 0, .int .i64 0, .bool false, .int .i64 0, .slice none 0 0] := by rw [← hbo]; exact Box.alloc_
           have hox : x0.heap.size ≤ bo := by rw [← hbo]; exact HBW.out.size
           have HBW := Lib.hid (ext_trans HBW.out hb)
           try have HBS := Lib.hid (HBS.out.below hb)
           obtain ⟨x1, hW⟩ : ∃ W, x0.alloc (.cells #[.int .i64 0, .int .i64 0, .int .i64 0, .slice none 0 0, .int .i64 0, .int .i64 0, .bool false, .int .i64 0, .slice none 0 0] 44) = W := ⟨_, rfl⟩
           rw [hW] at HBW hBo hb ⊢
           try rw [hW] at HBS
           rw [hbo]
           have HBO := Lib.hid hBo
           refine hK (fun b => False ∨ b = bo) _ _ (fun b h => by first | exact .inl h | (rcases h with h | h; exact .inl h; exact .inr (by omega))) (Mem.of_below hb) ?_
           clear hb hBo hW hbo
           clear hK K
           try simp only [Act.put, List.setIfInBounds_toArray, List.set_cons_zero, List.set_cons_succ]
           refine rgx_1 11 (by kernel_rfl) ?_
           refine ⟨_, rfl, by rfl, fun K hK => ?_⟩
           go_simp
           have hb := (Below.refl x1.heap.size x1).alloc (Nat.le_refl _) (.cells #[.int .i64 ask, .slice none 0 0] 48)
           obtain ⟨bs, hbs⟩ : ∃ bs, x1.heap.size = bs := ⟨_, rfl⟩
           have hBs : Box (x1.alloc (.cells #[.int .i64 ask, .slice none 0 0] 48)) bs #[.int .i64 ask, .slice none 0 0] := by rw [← hbs]; exact Box.alloc_
           have hsx : x0.heap.size ≤ bs := by rw [← hbs]; exact HBW.out.size
           have HBW := Lib.hid (ext_trans HBW.out hb)
           try have HBO := Lib.hid (HBO.out.below hb)
           obtain ⟨x2, hW⟩ : ∃ W, x1.alloc (.cells #[.int .i64 ask, .slice none 0 0] 48) = W := ⟨_, rfl⟩
           rw [hW] at HBW hBs hb ⊢
           try rw [hW] at HBO
           rw [hbs]
           have HBS := Lib.hid hBs
           refine hK (fun b => False ∨ b = bo) _ _ (fun b h => .inl h) (Mem.of_below hb) ?_
           clear hb hBs hW hbs
           clear hK K
           try simp only [Act.put, List.setIfInBounds_toArray, List.set_cons_zero, List.set_cons_succ]
           refine rgx_t (v := ?_) (some 51) 12 (by kernel_rfl) rfl rfl (.inl ⟨by rfl, fun w' q => ?_⟩) ?_
           rotate_left
           · go_simp <;> with_reducible rfl
           try simp only [Act.put, List.setIfInBounds_toArray, List.set_cons_zero, List.set_cons_succ]
           refine rgx_t (v := ?_) (some 52) 13 (by kernel_rfl) rfl rfl (.inl ⟨by rfl, fun w' q => ?_⟩) ?_
           rotate_left
           · go_simp <;> with_reducible rfl
           try simp only [Act.put, List.setIfInBounds_toArray, List.set_cons_zero, List.set_cons_succ]
           refine rgx_1 15 (by kernel_rfl) ?_
           refine ⟨_, rfl, by rfl, fun K hK => ?_⟩
           obtain ⟨qo, zo, lo⟩ := HBO.out
           go_simp
           rw [HLW.out, HNX2.out]
           have hBf := box_put9 HBO.out (.int .i64 1) (.int .i64 43) (.int .i64 0) (.slice none 0 0) (.int .i64 3) (.int .i64 lw) (.bool true) (.int .i64 nx) (.slice (some ⟨bs, 0, none⟩) 1 1)
           have hbf := below_put9 HBW.out hox (.int .i64 1) (.int .i64 43) (.int .i64 0) (.slice none 0 0) (.int .i64 3) (.int .i64 lw) (.bool true) (.int .i64 nx) (.slice (some ⟨bs, 0, none⟩) 1 1)
           have hm : Mem (fun b => False ∨ b = bo) x2 (((((((((x2.setCell ⟨bo, 0, none⟩ (.int .i64 1)).setCell ⟨bo, 1, none⟩ (.int .i64 43)).setCell ⟨bo, 2, none⟩ (.int .i64 0)).setCell ⟨bo, 3, none⟩ (.slice none 0 0)).setCell ⟨bo, 4, none⟩ (.int .i64 3)).setCell ⟨bo, 5, none⟩ (.int .i64 lw)).setCell ⟨bo, 6, none⟩ (.bool true)).setCell ⟨bo, 7, none⟩ (.int .i64 nx)).setCell ⟨bo, 8, none⟩ (.slice (some ⟨bs, 0, none⟩) 1 1)) := ((((((((((Mem.refl _ _).of_set (.inr rfl)).of_set (.inr rfl)).of_set (.inr rfl)).of_set (.inr rfl)).of_set (.inr rfl)).of_set (.inr rfl)).of_set (.inr rfl)).of_set (.inr rfl)).of_set (.inr rfl))
           have hsb : bs ≠ bo := fun e => by have h1 := HBS.out.1 5; have h2 := HBO.out.1 5; rw [e, h2] at h1; cases h1
           have hBs9 := box_off9 HBS.out hsb (.int .i64 1) (.int .i64 43) (.int .i64 0) (.slice none 0 0) (.int .i64 3) (.int .i64 lw) (.bool true) (.int .i64 nx) (.slice (some ⟨bs, 0, none⟩) 1 1)
           obtain ⟨x3, hW⟩ : ∃ W, (((((((((x2.setCell ⟨bo, 0, none⟩ (.int .i64 1)).setCell ⟨bo, 1, none⟩ (.int .i64 43)).setCell ⟨bo, 2, none⟩ (.int .i64 0)).setCell ⟨bo, 3, none⟩ (.slice none 0 0)).setCell ⟨bo, 4, none⟩ (.int .i64 3)).setCell ⟨bo, 5, none⟩ (.int .i64 lw)).setCell ⟨bo, 6, none⟩ (.bool true)).setCell ⟨bo, 7, none⟩ (.int .i64 nx)).setCell ⟨bo, 8, none⟩ (.slice (some ⟨bs, 0, none⟩) 1 1)) = W := ⟨_, rfl⟩
           rw [hW] at hBf hbf hm hBs9 ⊢
           have HBF := Lib.hid hBf
           have HBT := Lib.hid hBs9
           refine hK (fun b => False ∨ b = bo) _ _ (fun b h => .inl h) hm ?_
           clear qo zo lo hm hW hBf hBs9
           clear hK K
           try simp only [Act.put, List.setIfInBounds_toArray, List.set_cons_zero, List.set_cons_succ]
           refine rgx_d (by kernel_rfl) ?_
           go_wp2_with fail
           go_meet
           case rel => exact ⟨bo, rfl, fedB_one HBF.out HBT.out hnxb (HB4w.out.trans (hbf.mono HB4w.out.size)) (Nat.le_trans HB4w.out.size hox) (Nat.le_trans HB4w.out.size hsx) hgwr hrwr.out⟩
        case rest =>
          obtain ⟨bo, rfl, hfb⟩ := hcut
          obtain ⟨W5, hW5⟩ : ∃ W, W = wc := ⟨_, rfl⟩
          subst hW5
          have HFB := Lib.hid hfb
          have hbWc : Below wr.heap.size wr W5 := hfb.choose_spec.2.2.2.2.1
          have hbwc := ext_trans hbw hbWc
          have hbo : wr.heap.size ≤ bo := hfb.choose_spec.2.2.2.2.2
          clear hfb hb3
          go_upto_region 13 with fail
          have hcc : ∃ bb : Bool, (bb = true ∧ ∃ (hk : k < l.length), ¬ l[k].V = 0) ∨ (bb = false ∧ ((∃ (hk : k < l.length), l[k].V = 0) ∨ ¬ k < n)) := by
            by_cases hkn : k < n
            · by_cases hv : (l[k]'(by rw [HNL.out]; exact hkn)).V = 0
              · exact ⟨false, .inr ⟨rfl, .inl ⟨_, hv⟩⟩⟩
              · exact ⟨true, .inl ⟨rfl, _, hv⟩⟩
            · exact ⟨false, .inr ⟨rfl, .inr hkn⟩⟩
          obtain ⟨bb, hcc⟩ := hcc
          have HCC := Lib.hid hcc
          clear hcc
          go_cut [64] (fun v x => v = .bool bb ∧ x = W5)
          case first =>
            rcases HCC.out with ⟨rfl, hkl, hv⟩ | ⟨rfl, ⟨hkl, hv⟩ | hkn⟩
            · obtain ⟨b', off, rfl, hlb, c0, _⟩ := oc_cells (show Rd W5 w.heap.size 9 A l.length (ocCells l) by rw [HNL.out]; exact HR.out.below hbwc (Nat.le_refl _)) k hkl
              have d0 : decide (k < n) = true := by rw [← HNL.out]; simpa using hkl
              have hkn : k < n := by rw [← HNL.out]; exact hkl
              have d1 : (l[k].V != 0) = true := by simpa using hv
              clear hv HCC
              go_wp2_with fail
              go_meet
              case rel => exact ⟨rfl, rfl⟩
            · obtain ⟨b', off, rfl, hlb, c0, _⟩ := oc_cells (show Rd W5 w.heap.size 9 A l.length (ocCells l) by rw [HNL.out]; exact HR.out.below hbwc (Nat.le_refl _)) k hkl
              have d0 : decide (k < n) = true := by rw [← HNL.out]; simpa using hkl
              have hkn : k < n := by rw [← HNL.out]; exact hkl
              have d1 : (l[k].V != 0) = false := by simpa using hv
              clear hv HCC
              go_wp2_with fail
              go_meet
              case rel => exact ⟨rfl, rfl⟩
            · have d0 : decide (k < n) = false := by simpa using hkn
              clear HCC
              go_wp2_with fail
              go_meet
              case rel => exact ⟨rfl, rfl⟩
          case rest =>
            obtain ⟨rfl, hwc⟩ := hcut
            obtain rfl : W5 = wc := hwc.symm
            go_upto_if 64 with (fail)
            go_cut [] (fun x => FedB wr x g row bo)
            case first =>
              rcases HCC.out with ⟨rfl, hkl, hv⟩ | ⟨rfl, _⟩
              · obtain ⟨b', off, rfl, hlb, c0, c1, c2, c3, c4, c5, c6, c7, c8⟩ := oc_cells (show Rd W5 w.heap.size 9 A l.length (ocCells l) by rw [HNL.out]; exact HR.out.below hbwc (Nat.le_refl _)) k hkl
                have hkn : k < n := by rw [← HNL.out]; exact hkl
                have d0 : decide (k < n) = true := by simpa using hkn
                have hfd := fun (W : World) (h : Below w.heap.size w W) => Oc.fed (W := W) (g := g) (row := row) (HOK.out l[k] (List.getElem_mem hkl)) (HSM.out l[k] (List.getElem_mem hkl)) h hgb (fun c hc => (HI.out.row_lt c hc).1)
                obtain ⟨lo, hlo⟩ : ∃ lo, l[k] = lo := ⟨_, rfl⟩
                rw [hlo] at c0 c1 c2 c3 c4 c5 c6 c7 c8 hfd
                obtain ⟨V, oF, E, dA, dn, dc, C, L, M, N, oA, oc, dxs, oos⟩ := lo
                dsimp only at c0 c1 c2 c3 c4 c5 c6 c7 c8
                obtain ⟨ob, hob, _⟩ := HFB.out
                have hB9 := box_put9 hob (.int .i64 V) (.int .i64 oF) (.int .i64 E) (.slice dA dn dc) (.int .i64 C) (.int .i64 L) (.bool M) (.int .i64 N) (.slice oA oos.length oc)
                have hb9 := below_put9 hbWc hbo (.int .i64 V) (.int .i64 oF) (.int .i64 E) (.slice dA dn dc) (.int .i64 C) (.int .i64 L) (.bool M) (.int .i64 N) (.slice oA oos.length oc)
                have hfed9 : FedB wr (((((((((W5.setCell ⟨bo, 0, none⟩ (.int .i64 V)).setCell ⟨bo, 1, none⟩ (.int .i64 oF)).setCell ⟨bo, 2, none⟩ (.int .i64 E)).setCell ⟨bo, 3, none⟩ (.slice dA dn dc)).setCell ⟨bo, 4, none⟩ (.int .i64 C)).setCell ⟨bo, 5, none⟩ (.int .i64 L)).setCell ⟨bo, 6, none⟩ (.bool M)).setCell ⟨bo, 7, none⟩ (.int .i64 N)).setCell ⟨bo, 8, none⟩ (.slice oA oos.length oc)) g row bo := ⟨⟨V, oF, E, dA, dn, dc, C, L, M, N, oA, oc, dxs, oos⟩, hB9, (hfd _ (ext_trans hbw hb9)).1, (hfd _ (ext_trans hbw hb9)).2.1, (hfd _ (ext_trans hbw hb9)).2.2, hb9, hbo⟩
                have HF9 := Lib.hid hfed9
                obtain ⟨qo, zo, lzo⟩ := hob
                clear hv HCC hfd hB9 hb9 hfed9 hlo
                go_wp2_with fail
                go_meet
                case rel => exact HF9.out
              · clear HCC
                go_wp2_with fail
                go_meet
                case rel => exact HFB.out
            case rest =>
              obtain ⟨⟨V, oF, E, dA, dn, dc, C, L, M, N, oA, oc, dxs, oos⟩, hBo, hfed, hv3, hN3, hbx, _⟩ := hcut
              have hI9 := HI.out.below hbx
              have hEI := HE.out
              have hfd := feed_any S g noF row ⟨V, oF, E, dA, dn, dc, C, L, M, N, oA, oc, dxs, oos⟩ wc hI9 HST.out (by rw [HAK.out]; exact ⟨ha1, ha2⟩) (by rw [HCN.out]; exact hlt) hEI.1.2.2.1 hfed (fun b h => h.elim)
              have hes := e_step hEI HST.out hfed.2.2.1 hv3 hN3
              have HFD := Lib.hid hfd
              have HES := Lib.hid hes
              have HI9 := Lib.hid hI9
              have hbw9 := ext_trans hbw hbx
              obtain ⟨qo, zo, lzo⟩ := hBo
              clear hfd hes hI9 hfed hv3 hEI HFB HCC hbx
              go_wp2_with fail
              refine HFD.out.mono ?_
              rintro e w6 ⟨rfl, row6, hI6, _, hc6⟩
              have hbw6 := fed_below (S' := S0) hbw9 HI9.out hbw9.size hgb hc6
              have HI6 := Lib.hid hI6
              clear hI6 hc6 qo zo lzo HFD HI9
              go_wp2_with fail
              go_roundw
              case rel => exact ⟨k + 1, _, row6, by go_num, by omega, HES.out, HI6.out, hbw6⟩
              case measure => simp [intOf]; omega
      · have hst : S.st ≠ 0 := by
          rcases HE.out.2 with h | h | h | h
          · intro h0; exact hc ⟨h.2.2.2.2, h0⟩
          · omega
          · omega
          · omega
        have hnv : nextV S = .tuple #[.agg #[.int .i64 0, .int .i64 0, .int .i64 0, .int .i64 0, .int .i64 0], .bool false] := by rw [nextV, if_neg hst]; rfl
        have HNX := Lib.hid (fun (W : World) (h : IdAt W g noF row S) => hnv ▸ next_any S g noF row W h)
        have hlen : S.st = 2 → S.os.length ≤ 2000 ∧ ∀ x ∈ S.os, x.2.length ≤ 300 := fun _ => ⟨by have := HE.out.1.2.2.1; have := HE.out.1.2.2.2; omega, HE.out.1.2.1⟩
        have HRS := Lib.hid (fun (W : World) (h : IdAt W g noF row S) => result_any S g noF row W h hlen)
        have hres : (resO S = S.os ∧ S.st = 2 ∧ S.os ≠ []) ∨ (resO S = [] ∧ S.st ≠ 2) := by
          rcases HE.out.2 with h | h | h | h
          · exact absurd h.1 hst
          · exact .inl ⟨by rw [resO, if_pos h.1], h.1, h.2⟩
          · exact .inr ⟨by rw [resO, if_neg (by omega)], by omega⟩
          · exact .inr ⟨by rw [resO, if_neg (by omega)], by omega⟩
        have HRES := Lib.hid hres
        obtain ⟨st, hs2⟩ : ∃ st, S.st = st := ⟨_, rfl⟩
        have HS2 := Lib.hid hs2
        rw [hs2] at hst
        have d0 : (st != 0) = true := by simpa using hst
        have d00 : (st == 0) = false := by simpa using hst
        clear hnv hlen hres hs2 hst
        by_cases hlt : k < 32
        · clear hc
          go_wp2_with fail
          refine (HNX.out _ HI.out).mono ?_
          rintro e w3 ⟨rfl, hb3⟩
          have hb4 := ext_alloc hb3 (.cells #[.int .i64 0, .int .i64 0, .int .i64 0, .int .i64 0, .int .i64 0] 32)
          have hbwA := ext_trans hbw hb4
          have HIA := Lib.hid (HI.out.below hb4)
          go_upto_region 17 with fail
          obtain ⟨WA, hWA⟩ : ∃ WA, w3.alloc (.cells #[.int .i64 0, .int .i64 0, .int .i64 0, .int .i64 0, .int .i64 0] 32) = WA := ⟨_, rfl⟩
          rw [hWA] at hbwA HIA ⊢
          clear hb3 hb4 hWA HI hbw
          go_wp2_with fail
          refine (HNX.out _ HIA.out).mono ?_
          rintro e w7 ⟨rfl, hb7⟩
          have hb8 := ext_alloc hb7 (.cells #[.int .i64 0, .int .i64 0, .int .i64 0, .int .i64 0, .int .i64 0] 32)
          have hbwB := ext_trans hbwA hb8
          have HIB := Lib.hid (HIA.out.below hb8)
          clear hb7 hb8 HIA hbwA
          go_wp2_with fail
          refine (HRS.out _ HIB.out).mono ?_
          rintro e w9 ⟨A9, n9, c9, l9, rfl, hob, hln, hcon, hb9⟩
          rw [HS2.out]
          have hbwC := ext_trans hbwB hb9
          obtain ⟨rl9, hrl9⟩ : ∃ r, resL S = r := ⟨_, rfl⟩
          rw [hrl9]
          have hasc : asc (-1) (ids l9) = true := by
            rw [← cids_con, hcon]
            rcases HRES.out with ⟨h, _⟩ | ⟨h, _⟩
            · rw [h]; exact HE.out.1.1
            · rw [h]; rfl
          have hn1 : n9 ≤ 2000 := by
            have h1 := congrArg List.length hcon
            simp only [con, List.length_map] at h1
            rcases HRES.out with ⟨h, _⟩ | ⟨h, _⟩
            · rw [h] at h1; have := HE.out.1.2.2.1; have := HE.out.1.2.2.2; omega
            · rw [h] at h1; simp at h1; subst h1; simp at hln; omega
          obtain ⟨y, hy⟩ : ∃ y, (st == 2) = y := ⟨_, rfl⟩
          have hyn : decide (0 < n9) = y := by
            have h1 := congrArg List.length hcon
            simp only [con, List.length_map] at h1
            rw [hln] at h1
            rcases HRES.out with ⟨h, h2, h3⟩ | ⟨h, h2⟩
            · rw [h] at h1
              have h4 : 0 < S.os.length := List.length_pos_iff.2 h3
              rw [← hy, ← HS2.out, h2]
              simp; omega
            · rw [h] at h1
              simp at h1
              rw [← hy, ← HS2.out, h1]
              simpa using h2
          have hyn2 : decide ((0 : Int) < (n9 : Int)) = y := by rw [← hyn]; simp
          have HASC := Lib.hid hasc
          have HLN := Lib.hid hln
          have HOB := Lib.hid (show Rd w9 w9.heap.size 2 A9 n9 (obCells l9) by rw [← hln]; exact hob.1)
          clear hob hln hcon hb9 hasc hrl9 hbwB HIB HRES HE
          go_wp2_with fail
          go_loopw [17] (fun i wq => ∃ j : Nat, 1 ≤ j ∧ j ≤ n9 + 1 ∧ i = .int .i64 j ∧ ∃ z, wq = w9.drewN z) (fun i _ => n9 + 1 - (intOf i).toNat)
          case atStart => exact ⟨1, by omega, by omega, rfl, 0, rfl⟩
          case round =>
            obtain ⟨j, hj1, hj2, rfl, z, rfl⟩ := hrel
            by_cases hjn : j < n9
            · obtain ⟨b1, o1, rfl, _, hk1, x0, _⟩ := ob_at HOB.out j hjn
              obtain ⟨b2, o2, hA2, _, hk2, y0, _⟩ := ob_at HOB.out (j - 1) (by omega)
              injection hA2 with hA2
              injection hA2 with e1 e2
              subst e1 e2
              have hlt2 := e_asc HASC.out (j - 1) (by simp only [ids, List.length_map]; omega)
              have hjj : j - 1 + 1 = j := by omega
              have hlt3 : l9[j - 1].id < l9[j].id := by
                have : (ids l9)[j - 1 + 1]'(by simp only [ids, List.length_map]; omega) = l9[j].id := by simp [ids, hjj]
                rw [this] at hlt2
                simpa [ids] using hlt2
              obtain ⟨ia, hia⟩ : ∃ a, l9[j - 1].id = a := ⟨_, rfl⟩
              obtain ⟨ib, hib⟩ : ∃ a, l9[j].id = a := ⟨_, rfl⟩
              rw [hia] at y0 hlt3
              rw [hib] at x0 hlt3
              have dd : decide (ib ≤ ia) = false := by simp; omega
              have f3 : IntKind.i64.wrap ((j : Int) - 1) = ((j - 1 : Nat) : Int) := by rw [IntWalk.i64_in _ ⟨by omega, by omega⟩]; omega
              have hj3 : j - 1 < n9 := by omega
              clear hlt2 hjj hia hib
              go_upto_region 22 with fail
              go_quiet (fail)
              go_wp2_with fail
              go_roundw
              case rel => refine ⟨j + 1, by omega, by omega, by go_num, ?_⟩; first | exact ⟨_, drewN_add _ _ _⟩ | exact ⟨_, rfl⟩
              case measure => simp [intOf]; omega
            · go_wp2_with fail
              refine (awake_any _).mono ?_
              rintro e w10 ⟨rfl, hb10⟩
              go_wp2
              go_ret
              exact ⟨by first | rfl | simp [hy, hyn, hyn2] | (cases y <;> rfl), ext_trans (below_drewN hbwC z) hb10⟩
        · clear hc
          go_upto_region 17 with fail
          obtain ⟨WA, hWA⟩ : ∃ WA, wr = WA := ⟨_, rfl⟩
          have hbwA := hbw
          have HIA := Lib.hid HI.out
          rw [hWA] at hbwA HIA ⊢
          clear hWA HI hbw
          go_wp2_with fail
          refine (HNX.out _ HIA.out).mono ?_
          rintro e w7 ⟨rfl, hb7⟩
          have hb8 := ext_alloc hb7 (.cells #[.int .i64 0, .int .i64 0, .int .i64 0, .int .i64 0, .int .i64 0] 32)
          have hbwB := ext_trans hbwA hb8
          have HIB := Lib.hid (HIA.out.below hb8)
          clear hb7 hb8 HIA hbwA
          go_wp2_with fail
          refine (HRS.out _ HIB.out).mono ?_
          rintro e w9 ⟨A9, n9, c9, l9, rfl, hob, hln, hcon, hb9⟩
          rw [HS2.out]
          have hbwC := ext_trans hbwB hb9
          obtain ⟨rl9, hrl9⟩ : ∃ r, resL S = r := ⟨_, rfl⟩
          rw [hrl9]
          have hasc : asc (-1) (ids l9) = true := by
            rw [← cids_con, hcon]
            rcases HRES.out with ⟨h, _⟩ | ⟨h, _⟩
            · rw [h]; exact HE.out.1.1
            · rw [h]; rfl
          have hn1 : n9 ≤ 2000 := by
            have h1 := congrArg List.length hcon
            simp only [con, List.length_map] at h1
            rcases HRES.out with ⟨h, _⟩ | ⟨h, _⟩
            · rw [h] at h1; have := HE.out.1.2.2.1; have := HE.out.1.2.2.2; omega
            · rw [h] at h1; simp at h1; subst h1; simp at hln; omega
          obtain ⟨y, hy⟩ : ∃ y, (st == 2) = y := ⟨_, rfl⟩
          have hyn : decide (0 < n9) = y := by
            have h1 := congrArg List.length hcon
            simp only [con, List.length_map] at h1
            rw [hln] at h1
            rcases HRES.out with ⟨h, h2, h3⟩ | ⟨h, h2⟩
            · rw [h] at h1
              have h4 : 0 < S.os.length := List.length_pos_iff.2 h3
              rw [← hy, ← HS2.out, h2]
              simp; omega
            · rw [h] at h1
              simp at h1
              rw [← hy, ← HS2.out, h1]
              simpa using h2
          have hyn2 : decide ((0 : Int) < (n9 : Int)) = y := by rw [← hyn]; simp
          have HASC := Lib.hid hasc
          have HLN := Lib.hid hln
          have HOB := Lib.hid (show Rd w9 w9.heap.size 2 A9 n9 (obCells l9) by rw [← hln]; exact hob.1)
          clear hob hln hcon hb9 hasc hrl9 hbwB HIB HRES HE
          go_wp2_with fail
          go_loopw [17] (fun i wq => ∃ j : Nat, 1 ≤ j ∧ j ≤ n9 + 1 ∧ i = .int .i64 j ∧ ∃ z, wq = w9.drewN z) (fun i _ => n9 + 1 - (intOf i).toNat)
          case atStart => exact ⟨1, by omega, by omega, rfl, 0, rfl⟩
          case round =>
            obtain ⟨j, hj1, hj2, rfl, z, rfl⟩ := hrel
            by_cases hjn : j < n9
            · obtain ⟨b1, o1, rfl, _, hk1, x0, _⟩ := ob_at HOB.out j hjn
              obtain ⟨b2, o2, hA2, _, hk2, y0, _⟩ := ob_at HOB.out (j - 1) (by omega)
              injection hA2 with hA2
              injection hA2 with e1 e2
              subst e1 e2
              have hlt2 := e_asc HASC.out (j - 1) (by simp only [ids, List.length_map]; omega)
              have hjj : j - 1 + 1 = j := by omega
              have hlt3 : l9[j - 1].id < l9[j].id := by
                have : (ids l9)[j - 1 + 1]'(by simp only [ids, List.length_map]; omega) = l9[j].id := by simp [ids, hjj]
                rw [this] at hlt2
                simpa [ids] using hlt2
              obtain ⟨ia, hia⟩ : ∃ a, l9[j - 1].id = a := ⟨_, rfl⟩
              obtain ⟨ib, hib⟩ : ∃ a, l9[j].id = a := ⟨_, rfl⟩
              rw [hia] at y0 hlt3
              rw [hib] at x0 hlt3
              have dd : decide (ib ≤ ia) = false := by simp; omega
              have f3 : IntKind.i64.wrap ((j : Int) - 1) = ((j - 1 : Nat) : Int) := by rw [IntWalk.i64_in _ ⟨by omega, by omega⟩]; omega
              have hj3 : j - 1 < n9 := by omega
              clear hlt2 hjj hia hib
              go_upto_region 22 with fail
              go_quiet (fail)
              go_wp2_with fail
              go_roundw
              case rel => refine ⟨j + 1, by omega, by omega, by go_num, ?_⟩; first | exact ⟨_, drewN_add _ _ _⟩ | exact ⟨_, rfl⟩
              case measure => simp [intOf]; omega
            · go_wp2_with fail
              refine (awake_any _).mono ?_
              rintro e w10 ⟨rfl, hb10⟩
              go_wp2
              go_ret
              exact ⟨by first | rfl | simp [hy, hyn, hyn2] | (cases y <;> rfl), ext_trans (below_drewN hbwC z) hb10⟩
theorem endsI (l : List Oc) (A : Option Addr) (c : Nat) (lv0 st0 : Int) (w : World) (hr : Rd w w.heap.size 9 A l.length (ocCells l)) (hm : l.length ≤ maxLen) (hok : ∀ o ∈ l, o.ok w w.heap.size) :
    Calls Try.prog 4 #[.slice A l.length c, .int .i64 lv0, .int .i64 st0] w fun e w' => e = .returned (.bool true) ∧ Below w.heap.size w w' := lawEnds_any l A c lv0 st0 w hr hm hok
end Go.Proofs.Ytpbmolijoadonaa

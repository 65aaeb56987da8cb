import Derived.Test.YtoliplochipoeaaB10
/- Layer 19: the law's sanity check: two silent attempts. -/
set_option linter.unusedVariables false
set_option linter.unusedSimpArgs false
namespace Go.Proofs.Ytoliplochipoeaa
open Go.RowKit

abbrev awFr : List Int := frameL 5 [17]
/-- The link of the check: setting 9600, one retry, 1000 ticks. -/
def awK (fr : Value) (now en unt la : Int) (rc : Value) (att : Int) (sn : Value) (ph : Int) : Lk := ⟨9600, 0, 1, 1000, 303544, ph, 5, 17, 0, 0, 0, 0, fr, now, en, unt, la, rc, att, sn, .int .i64 0, .int .i64 0, .int .i64 0, .slice none 0 0, .int .i64 0, .int .i64 0, .bool false, .int .i64 0, .slice none 0 0⟩
def AwSt (g F : Nat) (A0 : Option Addr) (cap : Nat) (j : Nat) (wr : World) : Prop :=
  ∃ now en unt la rc A c, Box wr g (lkCells (awK (.slice A0 4 cap) now en unt la rc j (.slice A j c) 1)) ∧ 0 ≤ now ∧ now ≤ 1000000 * j ∧ wr.ownsRow (g + 1) 3 1 (.slice A j c) j (i64s (List.replicate j 3)) ∧ ∀ b, (Value.slice A j c).ownBlock = some b → F ≤ b
def AwEnd (g : Nat) (wr : World) : Prop :=
  ∃ k : Lk, k.att = 2 ∧ Box wr g (lkCells { k with ph := 5, o0 := .int .i64 3, o1 := .int .i64 0, o2 := .int .i64 0, o3 := .slice none 0 0, o4 := .int .i64 0, o5 := .int .i64 0, o6 := .bool false, o7 := .int .i64 0, o8 := .slice none 0 0 })
def AwLoop (w : World) (g F : Nat) (A0 : Option Addr) (cap : Nat) (j : Nat) (wr : World) : Prop :=
  Below w.heap.size w wr ∧ F ≤ wr.heap.size ∧ Rd wr F 1 A0 4 (by8 awFr) ∧ (j < 2 → AwSt g F A0 cap j wr) ∧ (j = 2 → AwEnd g wr)
theorem rd_chx_low {w w' : World} {F n : Nat} {A : Option Addr} {xs : List Value} {X : Nat → Prop} (h : Rd w F 1 A n xs) (hF : F ≤ w.heap.size) (hc : ChX X w w') (hn : ∀ b, b < F → (∃ off, A = some ⟨b, off, none⟩) → ¬ X b) : Rd w' F 1 A n xs := by
  refine h.chx hF hc (fun h0 b off e => ?_)
  obtain ⟨b2, off2, e2, hb, _⟩ := h.2 h0
  rw [e] at e2
  injection e2 with e2
  injection e2 with e3 e4
  subst e3
  exact hn _ hb ⟨off, e⟩
theorem rd_q {w w' : World} {B n : Nat} {A : Option Addr} {xs : List Value} {X : Nat → Prop} (h : Rd w B 1 A n xs) (hB : B ≤ w.heap.size) (hn : ∀ b off, A = some ⟨b, off, none⟩ → b < B → ¬ X b) (q : ∀ b o, b < w.heap.size → ¬ X b → w'.cell? ⟨b, o, none⟩ = w.cell? ⟨b, o, none⟩) : Rd w' B 1 A n xs := by
  refine ⟨h.1, fun h0 => ?_⟩
  obtain ⟨b, off, e, hb, hc⟩ := h.2 h0
  exact ⟨b, off, e, hb, fun j u hu => (q b _ (by omega) (hn b off e hb)).trans (hc j u hu)⟩
theorem aw_action (g : Nat) (A0 : Option Addr) (cap : Nat) (now en unt la att : Int) (rc sn : Value) (w : World) (hB : Box w g (lkCells (awK (.slice A0 4 cap) now en unt la rc att sn 1))) (hr : Rd w w.heap.size 1 A0 4 (by8 awFr)) :
    Calls Try.prog 43 #[iptr g] w fun e w' => ∃ v, e = .returned (.agg #[.int .i64 1, .int .i64 now, v]) ∧ w'.ownsRow w.heap.size 5 1 v 4 (by8 awFr) ∧ Below w.heap.size w w' :=
  action_send (awK (.slice A0 4 cap) now en unt la rc att sn 1) g A0 4 cap awFr w hB rfl rfl hr (by omega)
theorem aw_sent (g j : Nat) (fr : Value) (now en unt la : Int) (rc sn : Value) (E : Int) (w : World) (hj : j < 2) (hn : 0 ≤ now ∧ now ≤ 1000000 * j) (hE : now + 100 = E) (hB : Box w g (lkCells (awK fr now en unt la rc j sn 1))) :
    Calls Try.prog 44 #[iptr g, .int .i64 E] w fun e w' => ∃ r, e = .returned (.int .i64 0) ∧ Box w' g (lkCells (awK fr now E (E + 6157) 0 (iptr r) ((j + 1 : Nat) : Int) sn 2)) ∧ ChX (fun i => i = g) w w' := by
  have h := lsent_ok (awK fr now en unt la rc j sn 1) g E 1146 1719 4011 (E + 6157) w hB rfl (by simp only [awK]; omega) (by omega) (show validB 9600 0 = true by decide) (show charZ 9600 0 = 1146 by decide) (show t15Z 9600 0 = 1719 by decide) (show t35Z 9600 0 = 4011 by decide) (by simp only [awK]; omega) (by simp only [awK]; omega) (by simp only [awK]; omega)
  refine h.mono ?_
  rintro e w' ⟨r, rfl, h1, h2, h3⟩
  refine ⟨r, rfl, ?_, h1.2⟩
  have h4 := h1.1
  simpa [awK, lkCells] using h4
theorem aw_sil1 (g F j : Nat) (fr : Value) (now en unt la : Int) (rc : Value) (A : Option Addr) (c : Nat) (w : World) (hj : j < 2) (hE : 0 ≤ en ∧ en ≤ 2000000) (hB : Box w g (lkCells (awK fr now en unt la rc ((j + 1 : Nat) : Int) (.slice A j c) 2))) (hU : unt = en + 6157)
    (hown : w.ownsRow (g + 1) 3 1 (.slice A j c) j (i64s (List.replicate j 3))) (hF : F ≤ w.heap.size) (hrF : ∀ b, (Value.slice A j c).ownBlock = some b → F ≤ b) :
    Calls Try.prog 45 #[iptr g] w fun e w' => ∃ A2 c2, e = .returned (.int .i64 0) ∧ Box w' g (lkCells (awK fr now en (en + 303544) la rc ((j + 1 : Nat) : Int) (.slice A2 (j + 1) c2) 4)) ∧
      w'.ownsRow (g + 1) 3 1 (.slice A2 (j + 1) c2) (j + 1) (i64s (List.replicate (j + 1) 3)) ∧ (∀ b, (Value.slice A2 (j + 1) c2).ownBlock = some b → F ≤ b) ∧ ChX (fun i => i = g ∨ some i = (Value.slice A j c).ownBlock) w w' := by
  have h := silence_wait (awK fr now en unt la rc ((j + 1 : Nat) : Int) (.slice A j c) 2) g A j c (List.replicate j 3) w hB rfl rfl hown (by omega) (by simp only [awK]; omega) (by simp only [awK]; omega)
  refine h.mono ?_
  rintro e w' ⟨A2, c2, rfl, h1, h2, h3⟩
  refine ⟨A2, c2, rfl, ?_, ?_, ?_, h1.2⟩
  · have h4 := h1.1
    have e1 : maxZ unt (en + 303544) = en + 303544 := by unfold maxZ; omega
    simpa only [awK, e1] using h4
  · simpa [List.replicate_succ'] using h2
  · intro b hb
    rcases h3 with h3 | ⟨g2, h3, h4⟩
    · exact hrF b (by rw [← hb]; exact h3.symm)
    · rw [hb] at h3
      injection h3 with h3
      omega
theorem aw_sil2 (g F j : Nat) (A0 : Option Addr) (cap : Nat) (now en unt la : Int) (rc : Value) (A : Option Addr) (c : Nat) (w : World) (hj : j < 2) (hU : 0 ≤ unt ∧ unt ≤ 1000000 * ((j + 1 : Nat) : Int)) (hB : Box w g (lkCells (awK (.slice A0 4 cap) now en unt la rc ((j + 1 : Nat) : Int) (.slice A (j + 1) c) 4)))
    (hown : w.ownsRow (g + 1) 3 1 (.slice A (j + 1) c) (j + 1) (i64s (List.replicate (j + 1) 3))) (hrF : ∀ b, (Value.slice A (j + 1) c).ownBlock = some b → F ≤ b) :
    Calls Try.prog 45 #[iptr g] w fun e w' => e = .returned (.int .i64 0) ∧ ChX (fun i => i = g) w w' ∧ (j + 1 < 2 → AwSt g F A0 cap (j + 1) w') ∧ (j + 1 = 2 → AwEnd g w') := by
  rcases (show j = 0 ∨ j = 1 by omega) with rfl | rfl
  · refine (silence_again (awK (.slice A0 4 cap) now en unt la rc ((0 + 1 : Nat) : Int) (.slice A (0 + 1) c) 4) g w hB rfl (by simp [awK])).mono ?_
    rintro e w' ⟨rfl, h1, h2⟩
    refine ⟨rfl, h2, fun _ => ⟨unt, en, unt, la, rc, A, c, h1, hU.1, hU.2, own_chx hown h2 (fun b hb e => ?_), hrF⟩, fun h => absurd h (by omega)⟩
    have h3 := (hown.lt b hb).1
    have h4 : b = g := e
    omega
  · have hng : ∀ b off, A = some ⟨b, off, none⟩ → ¬ b = g := fun b off e he => by
      have h3 := (hown.lt b (by rw [e]; rfl)).1
      omega
    refine (silence_end (awK (.slice A0 4 cap) now en unt la rc ((1 + 1 : Nat) : Int) (.slice A (1 + 1) c) 4) g A (1 + 1) c (List.replicate (1 + 1) 3) w hB rfl (by simp [awK]) rfl (Rd.of_own hown) hng (by omega) (by simp)).mono ?_
    rintro e w' ⟨rfl, h1, h2⟩
    refine ⟨rfl, h2, fun h => absurd h (by omega), fun _ => ⟨awK (.slice A0 4 cap) unt en unt la rc 2 (.slice A (1 + 1) c) 4, rfl, ?_⟩⟩
    simpa [awK, verdL] using h1
set_option maxRecDepth 100000 in
set_option maxHeartbeats 8000000 in
theorem awake19_any (w : World) : Calls Try.prog 19 #[] w fun e w' => e = .returned (.bool true) ∧ Below w.heap.size w w' := by
  have HN := Lib.hid (fun W => lnew_ok 9600 0 1 1000 0 303544 (by decide) (by omega) (by omega) (by omega) (by decide +kernel) W)
  go_enter Try.func19, Try.ntmps19
  go_wp2_with fail
  refine (HN.out _).mono ?_
  rintro e w1 ⟨g, rfl, hbx, hwg, hb1⟩
  have HBE := Lib.hid (fun W (h : w1 = W) => lbegin_ok (fun i => i = g) (newLk 9600 0 1 1000 303544) g 5 17 0 0 0 0 0 W (h ▸ hbx) rfl rfl (by omega) (by simp [newLk]) (by decide))
  have HB1 := Lib.hid hb1
  have HWG := Lib.hid hwg
  have HG1 := Lib.hid hbx.2.2
  clear hbx hwg hb1
  go_wp2_with fail
  refine (HBE.out _ rfl).mono ?_
  rintro e w2 ⟨A0, m, cap, rfl, hl, how⟩
  have hr0 : Rd w2 w2.heap.size 1 A0 m (by8 awFr) := Rd.of_own how
  have hm : m = 4 := by have := hr0.1; simp [awFr, frameL, crcB] at this; omega
  subst hm
  have hfg : ∀ b off, A0 = some ⟨b, off, none⟩ → ¬ b = g := fun b off e he => by
    have h1 := (how.lt b (by rw [e]; rfl)).1
    have h2 := HG1.out
    omega
  have hbw : Below w.heap.size w w2 := below_chx HB1.out hl.2 HB1.out.size (fun i hi => by rw [show i = g from hi]; exact HWG.out)
  obtain ⟨F, hF⟩ : ∃ F, w2.heap.size = F := ⟨_, rfl⟩
  have hst : AwLoop w g F A0 cap 0 w2 := ⟨hbw, by omega, hF ▸ hr0, fun _ => ⟨0, 0, 0, 0, .pointer none, none, 0, hl.1, by omega, by omega, World.ownsRow_nil _ _ _ _, fun b h => by cases h⟩, fun h => absurd h (by decide)⟩
  have HST := Lib.hid hst
  have HFG := Lib.hid hfg
  have HGF := Lib.hid (show g < F by have := HG1.out; have := hl.2.size; omega)
  clear hst hfg hbw hr0 hl how hF
  go_wp2_with fail
  go_loopw [3] (fun i wr => ∃ j : Nat, j ≤ 2 ∧ i = .int .i64 j ∧ AwLoop w g F A0 cap j wr) (fun i _ => 2 - (intOf i).toNat)
  case atStart => exact ⟨0, by omega, rfl, HST.out⟩
  case round =>
    obtain ⟨j, hj, rfl, hbw, hFs, hfr, hj1, hj2⟩ := hrel
    by_cases hlt : j < 2
    · obtain ⟨now, en, unt, la, rc, A, c, hbx, hn0, hn1, hrow, hrF⟩ := hj1 hlt
      clear hj1 hj2
      have HBX := Lib.hid hbx
      have HBW := Lib.hid hbw
      have HFR := Lib.hid hfr
      have HROW := Lib.hid hrow
      have HRF := Lib.hid hrF
      have HFS := Lib.hid hFs
      have HNB := Lib.hid (And.intro hn0 hn1)
      have HACT := Lib.hid (fun W (h : wr = W) => aw_action g A0 cap now en unt la j rc (.slice A j c) W (h ▸ hbx) (h ▸ hfr.more hFs))
      clear hbx hbw hfr hrow hrF hFs hn0 hn1
      go_wp2_with fail
      refine (HACT.out _ rfl).mono ?_
      rintro e w3 ⟨v9, rfl, hown9, hb9⟩
      obtain ⟨A9, c9, rfl, _, _⟩ := own_form hown9
      have hc9 : 4 ≤ c9 := by assumption
      have hrl : ∀ b, (Value.slice A j c).ownBlock = some b → g < b ∧ F ≤ b ∧ b < wr.heap.size := fun b hb => by
        have h1 := HROW.out.lt b hb
        exact ⟨by omega, HRF.out b hb, h1.2⟩
      have HL1 := Lib.hid ((HBX.out.below hb9).alloc' (.cells #[.int .i64 1, .int .i64 now, .slice A9 4 c9] 92))
      have HBA := Lib.hid (Box.alloc_ (w := w3) (cs := #[.int .i64 1, .int .i64 now, .slice A9 4 c9]) (e := 92))
      have hbb : Below wr.heap.size wr (w3.alloc (.cells #[.int .i64 1, .int .i64 now, .slice A9 4 c9] 92)) := ext_alloc hb9 _
      have HROW := Lib.hid (own_chx HROW.out (ChX.of_below (X := fun _ => False) hbb) (fun _ _ h => h))
      have HFR := Lib.hid (HFR.out.below hbb HFS.out)
      have HBW := Lib.hid (ext_trans HBW.out hbb)
      have hr9 : Rd w3 w3.heap.size 1 A9 2 (by8 [5, 17]) := (Rd.of_own hown9).take (k := 2) (by omega)
      have HR9 := Lib.hid (hr9.alloc' (.cells #[.int .i64 1, .int .i64 now, .slice A9 4 c9] 92) (Nat.le_refl _))
      have hlo9 : ∀ b off, A9 = some ⟨b, off, none⟩ → wr.heap.size ≤ b := fun b off e => (hown9.lt b (by rw [e]; rfl)).1
      have HLO9 := Lib.hid hlo9
      have hsz : w3.heap.size < (w3.alloc (.cells #[.int .i64 1, .int .i64 now, .slice A9 4 c9] 92)).heap.size := by simp
      go_upto_region 8 with fail
      obtain ⟨x0, hx0⟩ : ∃ W : World, (w3.alloc (.cells #[.int .i64 1, .int .i64 now, .slice A9 4 c9] 92)).drew = W := ⟨_, rfl⟩
      have HL1 := Lib.hid (hx0 ▸ HL1.out.drew)
      have HBA := Lib.hid (hx0 ▸ HBA.out.drew)
      have HROW := Lib.hid (show x0.ownsRow (g + 1) 3 1 (.slice A j c) j (i64s (List.replicate j 3)) by rw [← hx0]; exact HROW.out.drew)
      have HFR := Lib.hid (show Rd x0 F 1 A0 4 (by8 awFr) by rw [← hx0]; exact HFR.out)
      have HBW := Lib.hid (hx0 ▸ below_drew HBW.out)
      have HR9 := Lib.hid (show Rd x0 w3.heap.size 1 A9 2 (by8 [5, 17]) by rw [← hx0]; exact HR9.out)
      have hsz : w3.heap.size < x0.heap.size := by rw [← hx0]; exact hsz
      obtain ⟨ga, hga⟩ : ∃ n, w3.heap.size = n := ⟨_, rfl⟩
      rw [hga] at HBA HR9 hsz ⊢
      have hgw : g < wr.heap.size := HBX.out.2.2
      have hga2 : wr.heap.size ≤ ga := by rw [← hga]; exact hb9.size
      obtain ⟨rw1, hrw⟩ : ∃ r, (Value.slice A j c).ownBlock = r := ⟨_, rfl⟩
      rw [hrw] at hrl
      have hxg : ¬ (ga = g ∨ some ga = rw1) := by
        rintro (h | h)
        · omega
        · have := hrl ga h.symm; omega
      obtain ⟨st, hst⟩ : ∃ st, strOfNums [5, 17] = st := ⟨_, rfl⟩
      have hcv1 : ∀ w', (∀ b o, b < x0.heap.size → ¬ (b = g ∨ some b = rw1) → w'.cell? ⟨b, o, none⟩ = x0.cell? ⟨b, o, none⟩) → (convert 22 9 (.slice A9 2 c9)).run Try.prog w' = .ok (.string st) w' := fun w' q => by
        rw [← hst]
        refine (rd_q HR9.out (Nat.le_of_lt hsz) (fun b off e hb h => ?_) q).str
        have h1 := HLO9.out b off e
        rcases h with h | h
        · omega
        · have := hrl b h.symm; omega
      have HST2 := Lib.hid hst
      have HRW := Lib.hid hrw
      have HRL := Lib.hid hrl
      obtain ⟨hn0, hn1⟩ := HNB.out
      have hE1 : IntKind.i64.wrap (now + 100) = now + 100 := IntWalk.i64_in _ ⟨by omega, by omega⟩
      obtain ⟨E, hE2⟩ : ∃ E, now + 100 = E := ⟨_, rfl⟩
      rw [hE2] at hE1
      have HE2 := Lib.hid hE2
      have hE3 : IntKind.i64.wrap (now + 100) = E := by rw [hE2]; exact hE1
      have HEB := Lib.hid (show 0 ≤ E ∧ E ≤ 2000000 ∧ E + 303544 ≤ 1000000 * ((j + 1 : Nat) : Int) ∧ 0 ≤ E + 303544 by omega)
      obtain ⟨qa, za, la9⟩ := HBA.out
      have a0 : x0.cell? ⟨ga, 0, none⟩ = some (.int .i64 1) := qa 0
      have a1 : x0.cell? ⟨ga, 1, none⟩ = some (.int .i64 now) := qa 1
      have a2 : x0.cell? ⟨ga, 2, none⟩ = some (.slice A9 4 c9) := qa 2
      clear qa za hst hrw hn0 hn1 hE1 hE2 hbb hr9 hown9 hb9
      have hgx : g < x0.heap.size := by omega
      have hc92 : (2 : Int) ≤ (c9 : Int) := by omega
      refine rgx_start_x (X := fun b => b = g ∨ some b = rw1) (by kernel_rfl) ?_
      rw [hx0]
      refine rgx_t (v := ?_) (some 30) 0 (by kernel_rfl) rfl rfl (.inl ⟨by rfl, fun w' q => ?_⟩) ?_
      rotate_left
      · go_simp <;> with_reducible rfl
      try simp only [Act.put, List.setIfInBounds_toArray, List.set_cons_zero, List.set_cons_succ]
      refine rgx_t (v := ?_) (some 31) 1 (by kernel_rfl) rfl rfl (.inl ⟨by rfl, fun w' q => ?_⟩) ?_
      rotate_left
      · go_simp <;> with_reducible rfl
      try simp only [Act.put, List.setIfInBounds_toArray, List.set_cons_zero, List.set_cons_succ]
      refine rgx_t (v := ?_) (some 32) 2 (by kernel_rfl) rfl rfl (.inl ⟨by rfl, fun w' q => ?_⟩) ?_
      rotate_left
      · go_simp <;> with_reducible rfl
      try simp only [Act.put, List.setIfInBounds_toArray, List.set_cons_zero, List.set_cons_succ]
      refine rgx_t (v := ?_) (some 33) 3 (by kernel_rfl) rfl rfl (.inl ⟨by rfl, fun w' q => ?_⟩) ?_
      rotate_left
      · go_simp <;> with_reducible rfl
      try simp only [Act.put, List.setIfInBounds_toArray, List.set_cons_zero, List.set_cons_succ]
      refine rgx_t (v := ?_) (some 34) 4 (by kernel_rfl) rfl rfl (.inl ⟨by rfl, fun w' q => ?_⟩) ?_
      rotate_left
      · go_simp <;> with_reducible rfl
      try simp only [Act.put, List.setIfInBounds_toArray, List.set_cons_zero, List.set_cons_succ]
      refine rgx_t (v := ?_) (some 35) 5 (by kernel_rfl) rfl rfl (.inl ⟨by rfl, fun w' q => ?_⟩) ?_
      rotate_left
      · go_simp <;> with_reducible rfl
      try simp only [Act.put, List.setIfInBounds_toArray, List.set_cons_zero, List.set_cons_succ]
      refine rgx_t (v := ?_) (some 36) 6 (by kernel_rfl) rfl rfl (.inl ⟨by rfl, fun w' q => ?_⟩) ?_
      rotate_left
      · go_simp <;> with_reducible rfl
      try simp only [Act.put, List.setIfInBounds_toArray, List.set_cons_zero, List.set_cons_succ]
      refine rgx_t (v := ?_) (some 37) 7 (by kernel_rfl) rfl rfl (.inl ⟨by rfl, fun w' q => ?_⟩) ?_
      rotate_left
      · go_simp <;> with_reducible rfl
      try simp only [Act.put, List.setIfInBounds_toArray, List.set_cons_zero, List.set_cons_succ]
      refine rgx_t (v := ?_) (some 38) 8 (by kernel_rfl) rfl rfl (.inl ⟨by rfl, fun w' q => ?_⟩) ?_
      rotate_left
      · go_simp <;> with_reducible rfl
      try simp only [Act.put, List.setIfInBounds_toArray, List.set_cons_zero, List.set_cons_succ]
      refine rgx_t (v := ?_) (some 39) 9 (by kernel_rfl) rfl rfl (.inl ⟨by rfl, fun w' q => ?_⟩) ?_
      rotate_left
      · go_simp <;> with_reducible rfl
      try simp only [Act.put, List.setIfInBounds_toArray, List.set_cons_zero, List.set_cons_succ]
      refine rgx_t (v := ?_) (some 40) 10 (by kernel_rfl) rfl rfl (.inl ⟨by rfl, fun w' q => ?_⟩) ?_
      rotate_left
      · go_simp <;> with_reducible rfl
      try simp only [Act.put, List.setIfInBounds_toArray, List.set_cons_zero, List.set_cons_succ]
      refine rgx_t (v := (Value.string/-_-/st)) (some 41) 11 (by kernel_rfl) rfl rfl (.inl ⟨by rfl, fun w' q => (by have hc := hcv1 w' q; go_simp)⟩) ?_
      try simp only [Act.put, List.setIfInBounds_toArray, List.set_cons_zero, List.set_cons_succ]
      refine rgx_1 12 (by kernel_rfl) ?_
      refine ⟨_, rfl, by rfl, fun K hK => ?_⟩
      go_simp
      have hb := (Below.refl x0.heap.size x0).alloc (Nat.le_refl _) (.cells #[.int .u8 5, .int .u8 17] 5)
      have hRl : Rd (x0.alloc (.cells #[.int .u8 5, .int .u8 17] 5)) (x0.heap.size + 1) 1 (some ⟨x0.heap.size, 0, none⟩) 2 (by8 [5, 17]) := Rd.lit rfl (Nat.lt_succ_self _)
      obtain ⟨bl, hbl⟩ : ∃ bl, x0.heap.size = bl := ⟨_, rfl⟩
      have HL1 := Lib.hid (HL1.out.below hb)
      have HROW := Lib.hid (own_chx HROW.out (ChX.of_below (X := fun _ => False) hb) (fun _ _ h => h))
      have HFR := Lib.hid (HFR.out.below hb (by have := HFS.out; omega))
      have HBW := Lib.hid (ext_trans HBW.out hb)
      have HBA := Lib.hid (HBA.out.below hb)
      have hs1 : (x0.alloc (.cells #[.int .u8 5, .int .u8 17] 5)).heap.size = bl + 1 := by rw [← hbl]; simp
      obtain ⟨x1, hW⟩ : ∃ W, x0.alloc (.cells #[.int .u8 5, .int .u8 17] 5) = W := ⟨_, rfl⟩
      rw [hbl] at hRl hsz hgx ⊢
      rw [hW] at hb HL1 HROW HFR HBW HBA hRl hs1 ⊢
      have hcv2 : ∀ w', (∀ b o, b < x1.heap.size → ¬ (b = g ∨ some b = rw1) → w'.cell? ⟨b, o, none⟩ = x1.cell? ⟨b, o, none⟩) → (convert 22 9 (.slice (some ⟨bl, 0, none⟩) 2 2)).run Try.prog w' = .ok (.string st) w' := fun w' q => by rw [← HST2.out]; refine (rd_q hRl (by omega) (fun b off e hb2 h => ?_) q).str; injection e with e; injection e with e1 e2; subst e1; rcases h with h | h; exact absurd h (by omega); exact absurd (HRL.out _ h.symm) (by omega)
      refine hK (fun b => b = g ∨ some b = rw1) _ _ (fun b h => .inl h) (Mem.of_below (by rw [hbl]; rw [hbl] at hb; exact hb)) ?_
      obtain ⟨qa, za, la8⟩ := HBA.out
      have b1 : x1.cell? ⟨ga, 1, none⟩ = some (.int .i64 now) := qa 1
      have hsz1 : ga < x1.heap.size := by omega
      clear qa za hb hW hbl
      clear hK K
      try simp only [Act.put, List.setIfInBounds_toArray, List.set_cons_zero, List.set_cons_succ]
      refine rgx_t (v := (Value.string/-_-/st)) (some 43) 13 (by kernel_rfl) rfl rfl (.inl ⟨by rfl, fun w' q => (by have hc := hcv2 w' q; go_simp)⟩) ?_
      try simp only [Act.put, List.setIfInBounds_toArray, List.set_cons_zero, List.set_cons_succ]
      refine rgx_t (v := ?_) (some 44) 14 (by kernel_rfl) rfl rfl (.inl ⟨by rfl, fun w' q => ?_⟩) ?_
      rotate_left
      · go_simp <;> with_reducible rfl
      try simp only [Act.put, List.setIfInBounds_toArray, List.set_cons_zero, List.set_cons_succ]
      refine rgx_t (v := ?_) (some 45) 15 (by kernel_rfl) rfl rfl (.inl ⟨by rfl, fun w' q => ?_⟩) ?_
      rotate_left
      · go_simp <;> with_reducible rfl
      try simp only [Act.put, List.setIfInBounds_toArray, List.set_cons_zero, List.set_cons_succ]
      refine rgx_t (v := ?_) (some 46) 16 (by kernel_rfl) rfl rfl (.inl ⟨by rfl, fun w' q => ?_⟩) ?_
      rotate_left
      · go_simp <;> with_reducible rfl
      try simp only [Act.put, List.setIfInBounds_toArray, List.set_cons_zero, List.set_cons_succ]
      refine rgx_t (v := ?_) (some 47) 17 (by kernel_rfl) rfl rfl (.inl ⟨by rfl, fun w' q => ?_⟩) ?_
      rotate_left
      · go_simp <;> with_reducible rfl
      try simp only [Act.put, List.setIfInBounds_toArray, List.set_cons_zero, List.set_cons_succ]
      refine rgx_t (v := ?_) (some 48) 18 (by kernel_rfl) rfl rfl (.inl ⟨by rfl, fun w' q => ?_⟩) ?_
      rotate_left
      · go_simp <;> with_reducible rfl
      try simp only [Act.put, List.setIfInBounds_toArray, List.set_cons_zero, List.set_cons_succ]
      refine rgx_t (v := ?_) (some 49) 19 (by kernel_rfl) rfl rfl (.inl ⟨by rfl, fun w' q => ?_⟩) ?_
      rotate_left
      · go_simp <;> with_reducible rfl
      try simp only [Act.put, List.setIfInBounds_toArray, List.set_cons_zero, List.set_cons_succ]
      refine rgx_t (v := ?_) (some 50) 20 (by kernel_rfl) rfl rfl (.inl ⟨by rfl, fun w' q => ?_⟩) ?_
      rotate_left
      · go_simp <;> with_reducible rfl
      try simp only [Act.put, List.setIfInBounds_toArray, List.set_cons_zero, List.set_cons_succ]
      refine rgx_1 21 (by kernel_rfl) ?_
      refine ⟨_, rfl, by rfl, fun K hK => ?_⟩
      go_simp
      refine (aw_sent g j _ now en unt la rc _ _ x1 hlt HNB.out HE2.out HL1.out).mono ?_
      rintro e x2 ⟨r, rfl, h1, h2⟩
      refine hK (fun b => b = g ∨ some b = rw1) _ _ (fun b h => .inl h) (h2.mono (fun i hi => .inl hi)).mem ?_
      have HL1 := Lib.hid h1
      have HROW := Lib.hid (own_chx HROW.out h2 (fun b hb e => by have h3 := (HROW.out.lt b hb).1; have h4 : b = g := e; omega))
      have HFR := Lib.hid (rd_chx_low HFR.out (by have := HFS.out; omega) h2 (fun b hb e h => by obtain ⟨off, e⟩ := e; exact HFG.out b off e h))
      have HBW := Lib.hid (below_chx HBW.out h2 HBW.out.size (fun i hi => by rw [show i = g from hi]; exact HWG.out))
      have HZ := Lib.hid (show F ≤ x2.heap.size by have := HFS.out; have := h2.size; omega)
      clear h1 h2
      clear hK K
      try simp only [Act.put, List.setIfInBounds_toArray, List.set_cons_zero, List.set_cons_succ]
      refine rgx_t (v := ?_) (some 52) 22 (by kernel_rfl) rfl rfl (.inl ⟨by rfl, fun w' q => ?_⟩) ?_
      rotate_left
      · go_simp <;> with_reducible rfl
      try simp only [Act.put, List.setIfInBounds_toArray, List.set_cons_zero, List.set_cons_succ]
      refine rgx_t (v := ?_) (some 53) 23 (by kernel_rfl) rfl rfl (.inl ⟨by rfl, fun w' q => ?_⟩) ?_
      rotate_left
      · go_simp <;> with_reducible rfl
      try simp only [Act.put, List.setIfInBounds_toArray, List.set_cons_zero, List.set_cons_succ]
      refine rgx_t (v := ?_) (some 54) 24 (by kernel_rfl) rfl rfl (.inl ⟨by rfl, fun w' q => ?_⟩) ?_
      rotate_left
      · go_simp <;> with_reducible rfl
      try simp only [Act.put, List.setIfInBounds_toArray, List.set_cons_zero, List.set_cons_succ]
      refine rgx_t (v := ?_) (some 55) 25 (by kernel_rfl) rfl rfl (.inl ⟨by rfl, fun w' q => ?_⟩) ?_
      rotate_left
      · go_simp <;> with_reducible rfl
      try simp only [Act.put, List.setIfInBounds_toArray, List.set_cons_zero, List.set_cons_succ]
      refine rgx_1 26 (by kernel_rfl) ?_
      refine ⟨_, rfl, by rfl, fun K hK => ?_⟩
      go_simp
      refine (aw_sil1 g F j _ now _ _ 0 _ A c x2 hlt ⟨HEB.out.1, HEB.out.2.1⟩ HL1.out rfl HROW.out HZ.out HRF.out).mono ?_
      rintro e x3 ⟨A5, c5, rfl, h1, h2, h3, h4⟩
      rw [HRW.out] at h4
      refine hK (fun b => b = g ∨ some b = rw1) _ _ (fun b h => .inl h) h4.mem ?_
      have HL1 := Lib.hid h1
      have HROW := Lib.hid h2
      have HRF := Lib.hid h3
      have HFR := Lib.hid (rd_chx_low HFR.out HZ.out h4 (fun b hb e h => by obtain ⟨off, e⟩ := e; rcases h with h | h; exact HFG.out b off e h; have := HRL.out b h.symm; omega))
      have HBW := Lib.hid (below_chx HBW.out h4 HBW.out.size (fun i hi => by have h5 := HWG.out; rcases hi with h | h; (rw [h]; exact h5); have := HRL.out i h.symm; omega))
      have HZ := Lib.hid (show F ≤ x3.heap.size by have := HZ.out; have := h4.size; omega)
      clear h1 h2 h3 h4
      clear hK K
      try simp only [Act.put, List.setIfInBounds_toArray, List.set_cons_zero, List.set_cons_succ]
      refine rgx_t (v := ?_) (some 57) 27 (by kernel_rfl) rfl rfl (.inl ⟨by rfl, fun w' q => ?_⟩) ?_
      rotate_left
      · go_simp <;> with_reducible rfl
      try simp only [Act.put, List.setIfInBounds_toArray, List.set_cons_zero, List.set_cons_succ]
      refine rgx_t (v := ?_) (some 58) 28 (by kernel_rfl) rfl rfl (.inl ⟨by rfl, fun w' q => ?_⟩) ?_
      rotate_left
      · go_simp <;> with_reducible rfl
      try simp only [Act.put, List.setIfInBounds_toArray, List.set_cons_zero, List.set_cons_succ]
      refine rgx_t (v := ?_) (some 59) 29 (by kernel_rfl) rfl rfl (.inl ⟨by rfl, fun w' q => ?_⟩) ?_
      rotate_left
      · go_simp <;> with_reducible rfl
      try simp only [Act.put, List.setIfInBounds_toArray, List.set_cons_zero, List.set_cons_succ]
      refine rgx_t (v := ?_) (some 60) 30 (by kernel_rfl) rfl rfl (.inl ⟨by rfl, fun w' q => ?_⟩) ?_
      rotate_left
      · go_simp <;> with_reducible rfl
      try simp only [Act.put, List.setIfInBounds_toArray, List.set_cons_zero, List.set_cons_succ]
      refine rgx_1 31 (by kernel_rfl) ?_
      refine ⟨_, rfl, by rfl, fun K hK => ?_⟩
      go_simp
      refine (aw_sil2 g F j A0 cap now _ _ 0 _ A5 c5 x3 hlt ⟨HEB.out.2.2.2, HEB.out.2.2.1⟩ HL1.out HROW.out HRF.out).mono ?_
      rintro e x4 ⟨rfl, h1, h2, h3⟩
      refine hK (fun b => b = g ∨ some b = rw1) _ _ (fun b h => .inl h) (h1.mono (fun i hi => .inl hi)).mem ?_
      have HFR := Lib.hid (rd_chx_low HFR.out HZ.out h1 (fun b hb e h => by obtain ⟨off, e⟩ := e; exact HFG.out b off e h))
      have HBW := Lib.hid (below_chx HBW.out h1 HBW.out.size (fun i hi => by rw [show i = g from hi]; exact HWG.out))
      have HZ := Lib.hid (show F ≤ x4.heap.size by have := HZ.out; have := h1.size; omega)
      have HEND := Lib.hid (And.intro h2 h3)
      clear h1 h2 h3
      clear hK K
      try simp only [Act.put, List.setIfInBounds_toArray, List.set_cons_zero, List.set_cons_succ]
      refine rgx_t (v := ?_) (some 62) 32 (by kernel_rfl) rfl rfl (.inl ⟨by rfl, fun w' q => ?_⟩) ?_
      rotate_left
      · go_simp <;> with_reducible rfl
      try simp only [Act.put, List.setIfInBounds_toArray, List.set_cons_zero, List.set_cons_succ]
      refine rgx_t (v := ?_) (some 63) 33 (by kernel_rfl) rfl rfl (.inl ⟨by rfl, fun w' q => ?_⟩) ?_
      rotate_left
      · go_simp <;> with_reducible rfl
      try simp only [Act.put, List.setIfInBounds_toArray, List.set_cons_zero, List.set_cons_succ]
      refine rgx_d (by kernel_rfl) ?_
      go_wp2_with fail
      refine ⟨⟨j + 1, by omega, by simp, HBW.out, HZ.out, HFR.out, HEND.out.1, HEND.out.2⟩, by simp [intOf]; omega⟩
    · obtain rfl : j = 2 := by omega
      obtain ⟨k, hk, hbx⟩ := hj2 rfl
      have HOC := Lib.hid (fun W (h : wr = W) => outcome_zero k g 3 W (h ▸ hbx))
      have y18 : wr.cell? ⟨g, 18, none⟩ = some (.int .i64 2) := by rw [hbx.1 18]; simp [lkCells, hk]
      have hgz : g < wr.heap.size := hbx.2.2
      have HY := Lib.hid y18
      have HBW := Lib.hid hbw
      clear hj1 hj2 hbx y18 hbw hfr
      go_wp2_with fail
      refine (HOC.out _ rfl).mono ?_
      rintro e w9 ⟨rfl, hb9⟩
      have HBW := Lib.hid (ext_trans HBW.out hb9)
      have hy := (hb9.cell (p := ⟨g, 18, none⟩) hgz).trans HY.out
      have HY := Lib.hid (((Below.refl w9.heap.size w9).alloc (Nat.le_refl _) (.cells #[.int .i64 3, .int .i64 0, .int .i64 0, .slice none 0 0, .int .i64 0, .int .i64 0, .bool false, .int .i64 0, .slice none 0 0] 58)).cell (p := ⟨g, 18, none⟩) (show g < w9.heap.size by have := hb9.size; omega) |>.trans hy)
      have HBW := Lib.hid (ext_alloc HBW.out (.cells #[.int .i64 3, .int .i64 0, .int .i64 0, .slice none 0 0, .int .i64 0, .int .i64 0, .bool false, .int .i64 0, .slice none 0 0] 58))
      clear hb9 hy
      go_wp2_with fail
      refine (attempts_any g 2 _ HY.out).mono ?_
      rintro e w10 ⟨rfl, rfl⟩
      go_wp2
      go_ret
      exact ⟨rfl, HBW.out⟩
end Go.Proofs.Ytoliplochipoeaa

/- Arguments opened: slices of bytes (for seats whose texts import Bytes; a copy of XOpenB). -/
set_option linter.unusedVariables false
set_option linter.unusedSimpArgs false
set_option maxRecDepth 100000
namespace Go.Proofs.Ytoliplochipoeaa
open Go.ChangeShapes Go.WideShapes Go.RowKit Go.Deep Go.Joins
theorem c_u8 : Try.prog.cellsOf 5 = 1 := by kernel_rfl
section
variable {H : Type} {enc : TypeId × Value → H} {w : World} {base : Nat} {spare : Nat → Bool} {held : Bool}
theorem trod_bytes {n : Nat} {cs : List Value} {y : DataW H × List MemPlace} (h : DataW.trod enc Try.prog w base spare held n 22 cs = some y) :
    ∃ (A : Option Addr) (n c : Nat) (xs : List Int), cs = [.slice A n c] ∧ n ≤ c ∧ c ≤ maxLen ∧ Rd w w.heap.size 1 A n (by8 xs) ∧ ∀ x ∈ xs, 0 ≤ x ∧ x ≤ 255 := by
  obtain ⟨A, c, xs, rfl, hl, hm, hx, hR⟩ := trod_list (size := 1) (fun x : Int => [Value.int .u8 x]) (fun x => (Lit.int .u8 x).wf = true) Try.underlying22 c_u8 (by decide) (fun n cs y h => trod_intk Try.underlying5 h) h
  rw [flatten_one] at hR
  exact ⟨A, _, c, xs, rfl, hl, hm, hR, fun x h => wf_u8 (hx x h)⟩
theorem open_bytes {r : Reach} {b0 : Nat} {v : Value} {d : DataW H} {p : List MemPlace} (hv : Value.okWide Try.prog w r b0 22 v) (h : DataW.Trod enc Try.prog w base spare held 22 v d p) :
    ∃ (A : Option Addr) (n c : Nat) (xs : List Int), v = .slice A n c ∧ n ≤ c ∧ c ≤ maxLen ∧ Rd w w.heap.size 1 A n (by8 xs) ∧ ∀ x ∈ xs, 0 ≤ x ∧ x ≤ 255 := by
  obtain ⟨a0, len, cap, rfl⟩ := okWide_slice Try.underlying22 hv
  obtain ⟨fuel, hf⟩ := h
  obtain ⟨A, n, c, xs, hcs, r⟩ := trod_bytes hf
  simp only [Value.cells, List.cons.injEq, Value.slice.injEq, and_true] at hcs
  obtain ⟨rfl, rfl, rfl⟩ := hcs
  exact ⟨_, _, _, xs, rfl, r⟩
end
end Go.Proofs.Ytoliplochipoeaa


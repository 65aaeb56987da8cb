/- The receiver: plain words; a list of frames in memory; the state of Split's loop. -/
import Derived.Test.YtoliplochipoeaaTRcvM
set_option linter.unusedVariables false
set_option linter.unusedSimpArgs false
namespace Go.Proofs.Ytoliplochipoeaa
open Go.RowKit

/-- A character. -/
structure Ev where
  at_ : Int
  val : Int
  fl : Int
abbrev evCells (l : List Ev) : List Value := (l.map fun e => [Value.int .i64 e.at_, .int .u8 e.val, .int .i64 e.fl]).flatten
/-- A frame in memory; its content. -/
structure Fr where
  A : Option Addr
  n : Nat
  c : Nat
  xs : List Int
  fi : Int
  la : Int
  fl : Int
structure Fz where
  xs : List Int
  fi : Int
  la : Int
  fl : Int
abbrev frRow (f : Fr) : List Value := [.slice f.A f.n f.c, .int .i64 f.fi, .int .i64 f.la, .int .i64 f.fl]
abbrev frCells (l : List Fr) : List Value := (l.map frRow).flatten
def fz (f : Fr) : Fz := ⟨f.xs, f.fi, f.la, f.fl⟩
/-- The receiver's plain state. -/
structure Rs where
  xs : List Int
  fi : Int
  la : Int
  fl : Int
  ac : Bool
  lt : Int
  id_ : Int
def Rs.zero : Rs := ⟨[], 0, 0, 0, false, 0, 0⟩
def Rs.frame (S : Rs) : Fz := ⟨S.xs, S.fi, S.la, S.fl⟩
def addS (t15 : Int) (S : Rs) (sil : Int) (e : Ev) : Rs :=
  ⟨if S.xs.length < 256 then S.xs ++ [e.val] else S.xs, if S.ac then S.fi else e.at_, e.at_, addFl S.ac sil t15 S.xs.length S.fl e.fl, true, e.at_, S.id_⟩
def silS (ch : Int) (S : Rs) (e : Ev) : Int := max 0 (e.at_ - ch - S.lt)
def takeS (S : Rs) : Rs := ⟨[], 0, 0, 0, false, S.lt, S.id_⟩
def endS (ch t35 : Int) (S : Rs) (e : Ev) : Bool := S.ac && decide (t35 ≤ silS ch S e)
def charS (ch t15 t35 : Int) (S : Rs) (e : Ev) : Rs := addS t15 (if endS ch t35 S e then takeS S else S) (silS ch S e) e
/-- The frames that a list of characters ends, and the state behind it. -/
def runS (ch t15 t35 : Int) : Rs → List Ev → List Fz × Rs
  | S, [] => ([], S)
  | S, e :: l => ((if endS ch t35 S e then [S.frame] else []) ++ (runS ch t15 t35 (charS ch t15 t35 S e) l).1, (runS ch t15 t35 (charS ch t15 t35 S e) l).2)
theorem runS_append (ch t15 t35 : Int) (S : Rs) (l m : List Ev) : runS ch t15 t35 S (l ++ m) = ((runS ch t15 t35 S l).1 ++ (runS ch t15 t35 (runS ch t15 t35 S l).2 m).1, (runS ch t15 t35 (runS ch t15 t35 S l).2 m).2) := by
  induction l generalizing S with
  | nil => simp [runS]
  | cons e t ih => simp [runS, ih]
theorem runS_snoc (ch t15 t35 : Int) (S : Rs) (l : List Ev) (e : Ev) : runS ch t15 t35 S (l ++ [e]) = ((runS ch t15 t35 S l).1 ++ (if endS ch t35 (runS ch t15 t35 S l).2 e then [(runS ch t15 t35 S l).2.frame] else []), charS ch t15 t35 (runS ch t15 t35 S l).2 e) := by
  rw [runS_append]; simp [runS]
/-- All the frames of a list. -/
def framesS (ch t15 t35 : Int) (l : List Ev) : List Fz := (runS ch t15 t35 .zero l).1 ++ (if (runS ch t15 t35 .zero l).2.ac then [(runS ch t15 t35 .zero l).2.frame] else [])
theorem runS_len (ch t15 t35 : Int) (S : Rs) (l : List Ev) : (runS ch t15 t35 S l).1.length ≤ l.length := by
  induction l generalizing S with
  | nil => simp [runS]
  | cons e t ih => have := ih (charS ch t15 t35 S e); simp only [runS, List.length_append, List.length_cons]; split <;> simp <;> omega
theorem addS_xs (t15 : Int) (S : Rs) (sil : Int) (e : Ev) (h : S.xs.length ≤ 256) : (addS t15 S sil e).xs.length ≤ 256 := by
  simp only [addS]
  split
  · simp; omega
  · exact h
theorem charS_xs (ch t15 t35 : Int) (S : Rs) (e : Ev) (h : S.xs.length ≤ 256) : (charS ch t15 t35 S e).xs.length ≤ 256 := by
  refine addS_xs _ _ _ _ ?_
  split
  · simp [takeS]
  · exact h
theorem runS_xs (ch t15 t35 : Int) (S : Rs) (l : List Ev) (h : S.xs.length ≤ 256) : (runS ch t15 t35 S l).2.xs.length ≤ 256 := by
  induction l generalizing S with
  | nil => exact h
  | cons e t ih => exact ih _ (charS_xs ch t15 t35 S e h)

def FrOk (w : World) (N : Nat → Prop) (f : Fr) : Prop := Rd w w.heap.size 1 f.A f.n (by8 f.xs) ∧ (0 < f.n → ∀ b off, f.A = some ⟨b, off, none⟩ → ¬ N b) ∧ f.n ≤ f.c ∧ f.c ≤ maxLen
theorem own_caps {w : World} {base : Nat} {e : TypeId} {size n m c : Nat} {A : Option Addr} {xs : List Value} (h : w.ownsRow base e size (.slice A n c) m xs) : n ≤ c ∧ c ≤ maxLen := by
  rcases h.2 with ⟨h, _⟩ | ⟨g, cap, cur, hv, _, _, h1, h2, _⟩
  · injection h with _ h1 h2
    subst h1 h2
    exact ⟨Nat.le_refl _, by simp [maxLen]⟩
  · injection hv with _ h3 h4
    subst h3 h4
    exact ⟨h1, h2⟩
theorem FrOk.move {w w' : World} {N N' : Nat → Prop} {f : Fr} (h : FrOk w N f) (hs : w.heap.size ≤ w'.heap.size) (hk : ∀ b, b < w.heap.size → ¬ N b → w'.heap[b]? = w.heap[b]?) (hN : ∀ b, b < w.heap.size → N' b → N b) : FrOk w' N' f := by
  obtain ⟨h1, h2, h3⟩ := h
  refine ⟨⟨h1.1, fun hn => ?_⟩, fun hn b off e hb => ?_, h3⟩
  · obtain ⟨b, off, e, hb, hc⟩ := h1.2 hn
    refine ⟨b, off, e, by omega, fun j u hu => ?_⟩
    rw [World.cell?_of_block (a := ⟨b, off + j, none⟩) (hk b hb (h2 hn b off e))]
    exact hc j u hu
  · obtain ⟨b2, off2, e2, hb2, _⟩ := h1.2 hn
    rw [e] at e2
    injection e2 with e2
    injection e2 with e3 _
    subst e3
    exact h2 hn b off e (hN b hb2 hb)
abbrev NB (g : Nat) (v vo : Value) (b : Nat) : Prop := b = g ∨ some b = v.ownBlock ∨ some b = vo.ownBlock
/-- The receiver in state S, and the list of frames. -/
def SpSt (w0 w : World) (g : Nat) (v vo : Value) (ch t15 t35 : Int) (S : Rs) (l : List Fr) : Prop :=
  RB w g v ch t15 t35 S.xs S.fi S.la S.fl S.ac S.lt S.id_ ∧ w.ownsRow w0.heap.size 46 4 vo l.length (frCells l) ∧ some g ≠ vo.ownBlock ∧ (∀ b, v.ownBlock = some b → vo.ownBlock ≠ some b) ∧ (∀ f ∈ l, FrOk w (NB g v vo) f) ∧ w0.heap.size ≤ g ∧ Below w0.heap.size w0 w
theorem own_chg {w w' : World} {base g : Nat} {e : TypeId} {size n : Nat} {v : Value} {xs : List Value} {row : Option Nat} (h : w.ownsRow base e size v n xs) (hc : Chg w w' g row) (h1 : some g ≠ v.ownBlock) (h2 : ∀ b, v.ownBlock = some b → some b ≠ row) : w'.ownsRow base e size v n xs := by
  refine ⟨h.1, ?_⟩
  rcases h.2 with hn | ⟨b, cap, cur, rfl, hb', hgg, rest⟩
  · exact .inl hn
  · refine .inr ⟨b, cap, cur, rfl, hb', ?_, rest⟩
    rw [hc.2.2.2.2 b (Array.getElem?_eq_some_iff.1 hgg).1 (fun e => h1 (by rw [← e]; rfl)) (h2 b rfl)]
    exact hgg
theorem SpSt.below {w0 w w' : World} {g : Nat} {v vo : Value} {ch t15 t35 : Int} {S : Rs} {l : List Fr} (h : SpSt w0 w g v vo ch t15 t35 S l) (hb : Below w.heap.size w w') : SpSt w0 w' g v vo ch t15 t35 S l := by
  obtain ⟨h1, h2, h3, h4, h5, h6, h7⟩ := h
  exact ⟨h1.below hb, own_below h2 hb (Nat.le_refl _), h3, h4, fun f hf => (h5 f hf).move hb.size (fun b hlt _ => hb.block b hlt) (fun _ _ h => h), h6, ext_trans h7 hb⟩
theorem below_chg {B : Nat} {w0 w w' : World} {g : Nat} {row : Option Nat} (h : Below B w0 w) (hc : Chg w w' g row) (hB : B ≤ w.heap.size) (hg : B ≤ g) (hr : ∀ b, row = some b → B ≤ b) : Below B w0 w' :=
  ⟨hc.1.trans h.os, hc.2.1.trans h.tape, hc.2.2.1.trans h.output, Nat.le_trans h.size hc.2.2.2.1, fun i hi => (hc.2.2.2.2 i (Nat.lt_of_lt_of_le hi hB) (by omega) (fun e => by have := hr i e.symm; omega)).trans (h.block i hi)⟩
/-- The receiver has gone on, its row in place or anew. -/
theorem SpSt.keep {w0 w w' : World} {g : Nat} {v v' vo : Value} {ch t15 t35 : Int} {S S' : Rs} {l : List Fr} (h : SpSt w0 w g v vo ch t15 t35 S l) (hR : RB w' g v' ch t15 t35 S'.xs S'.fi S'.la S'.fl S'.ac S'.lt S'.id_) (hv : v'.ownBlock = v.ownBlock ∨ ∃ b, v'.ownBlock = some b ∧ w.heap.size ≤ b) (hc : Chg w w' g v.ownBlock) : SpSt w0 w' g v' vo ch t15 t35 S' l := by
  obtain ⟨h1, h2, h3, h4, h5, h6, h7⟩ := h
  refine ⟨hR, own_chg h2 hc h3 (fun b hb e => h4 b e.symm hb), h3, fun b hb e => ?_, fun f hf => (h5 f hf).move hc.2.2.2.1 (fun b hlt hn => hc.2.2.2.2 b hlt (fun e => hn (.inl e)) (fun e => hn (.inr (.inl e)))) (fun b hlt hn => ?_), h6, below_chg h7 hc h7.size h6 (fun b hb => by have := (h1.2.lt b hb).1; omega)⟩
  · rcases hv with hv | ⟨c, hv, hc⟩
    · exact h4 b (by rw [← hv]; exact hb) e
    · rw [hv] at hb; injection hb with hb; have := (h2.lt b e).2; omega
  · rcases hn with hn | hn | hn
    · exact .inl hn
    · rcases hv with hv | ⟨c, hv, hc⟩
      · exact .inr (.inl (by rw [← hv]; exact hn))
      · rw [hv] at hn; injection hn with hn; omega
    · exact .inr (.inr hn)
/-- A frame has ended: its row is the caller's. -/
theorem SpSt.end_ {w0 w w' : World} {g : Nat} {A : Option Addr} {n c : Nat} {v' vo : Value} {ch t15 t35 : Int} {S S' : Rs} {l : List Fr} (h : SpSt w0 w g (.slice A n c) vo ch t15 t35 S l) (hR : RB w' g v' ch t15 t35 S'.xs S'.fi S'.la S'.fl S'.ac S'.lt S'.id_) (hv : v'.ownBlock = none ∨ ∃ b, v'.ownBlock = some b ∧ w.heap.size ≤ b) (hc : Chg w w' g none) :
    SpSt w0 w' g v' vo ch t15 t35 S' l ∧ FrOk w' (NB g v' vo) ⟨A, n, c, S.xs, S.fi, S.la, S.fl⟩ := by
  obtain ⟨h1, h2, h3, h4, h5, h6, h7⟩ := h
  obtain ⟨A', c', hv2, _, hrd⟩ := own_form h1.2
  injection hv2 with e1 e2 e3
  subst e1
  subst e3
  have hnew : ∀ b, b < w.heap.size → some b ≠ v'.ownBlock := by
    intro b hb e
    rcases hv with hv | ⟨c, hv, hc⟩
    · rw [hv] at e; cases e
    · rw [hv] at e; injection e with e; omega
  refine ⟨⟨hR, own_chg h2 hc h3 (fun b hb e => by cases e), h3, fun b hb e => ?_, fun f hf => (h5 f hf).move hc.2.2.2.1 (fun b hlt hn => hc.2.2.2.2 b hlt (fun e => hn (.inl e)) (fun e => by cases e)) (fun b hlt hn => ?_), h6, below_chg h7 hc h7.size h6 (fun b hb => by cases hb)⟩, ?_⟩
  · exact hnew b (h2.lt b e).2 hb.symm
  · rcases hn with hn | hn | hn
    · exact .inl hn
    · exact absurd hn (hnew b hlt)
    · exact .inr (.inr hn)
  · have hok : FrOk w (fun b => b = g ∨ some b = vo.ownBlock) ⟨A, n, c, S.xs, S.fi, S.la, S.fl⟩ := by
      refine ⟨e2 ▸ hrd, fun hn b off e hb => ?_, own_caps h1.2⟩
      simp only at e hn
      subst e
      have hob : (Value.slice (some ⟨b, off, none⟩) n c).ownBlock = some b := rfl
      rcases hb with hb | hb
      · have := (h1.2.lt b hob).1; omega
      · exact h4 b hob hb.symm
    exact hok.move hc.2.2.2.1 (fun b hlt hn => hc.2.2.2.2 b hlt (fun e => hn (.inl e)) (fun e => by cases e)) (fun b hlt hn => by
      rcases hn with hn | hn | hn
      · exact .inl hn
      · exact absurd hn (hnew b hlt)
      · exact .inr hn)
/-- A frame is appended to the list. -/
theorem SpSt.app {w0 w w' : World} {g : Nat} {v vo vo' : Value} {ch t15 t35 : Int} {S : Rs} {l : List Fr} {f : Fr} (h : SpSt w0 w g v vo ch t15 t35 S l) (hf : FrOk w (NB g v vo) f) (hown : w'.ownsRow w0.heap.size 46 4 vo' (l.length + 1) (frCells l ++ frRow f)) (hg : w.grownBy w' vo.ownBlock) (hn : OwnNext w vo vo') : SpSt w0 w' g v vo' ch t15 t35 S (l ++ [f]) := by
  obtain ⟨h1, h2, h3, h4, h5, h6, h7⟩ := h
  have hnew : vo'.ownBlock = vo.ownBlock ∨ ∃ b, vo'.ownBlock = some b ∧ w.heap.size ≤ b := hn
  have hmv : ∀ x, FrOk w (NB g v vo) x → FrOk w' (NB g v vo') x := fun x hx => hx.move hg.size (fun b hlt hnb => hg.block b hlt (fun e => hnb (.inr (.inr e)))) (fun b hlt hnb => by
    rcases hnb with hnb | hnb | hnb
    · exact .inl hnb
    · exact .inr (.inl hnb)
    · rcases hnew with e | ⟨c, e, hc⟩
      · exact .inr (.inr (by rw [← e]; exact hnb))
      · rw [e] at hnb; injection hnb with hnb; omega)
  refine ⟨h1.other hg (Ne.symm h3) (fun b hb => h4 b hb), ?_, fun e => ?_, fun b hb e => ?_, fun x hx => ?_, h6, h7.grown hg h7.size (fun k hk => (h2.lt k hk).1)⟩
  · rw [List.length_append, show frCells (l ++ [f]) = frCells l ++ frRow f by simp [frCells]]; exact hown
  · rcases hnew with e2 | ⟨c, e2, hc⟩
    · exact h3 (by rw [← e2]; exact e)
    · rw [e2] at e; injection e with e; have := h1.1.2.2; omega
  · rcases hnew with e2 | ⟨c, e2, hc⟩
    · exact h4 b hb (by rw [← e2]; exact e)
    · rw [e2] at e; injection e with e; have := (h1.2.lt b hb).2; omega
  · rcases List.mem_append.1 hx with hx | hx
    · exact hmv x (h5 x hx)
    · obtain rfl : x = f := by simpa using hx
      exact hmv x hf
theorem evCells_length (l : List Ev) : (evCells l).length = l.length * 3 := by
  induction l with
  | nil => rfl
  | cons e t ih => simp [evCells] at ih ⊢; omega
theorem evCells_get (l : List Ev) (k : Nat) (h : k < l.length) : (evCells l)[k * 3]? = some (.int .i64 l[k].at_) ∧ (evCells l)[k * 3 + 1]? = some (.int .u8 l[k].val) ∧ (evCells l)[k * 3 + 2]? = some (.int .i64 l[k].fl) := by
  induction l generalizing k with
  | nil => cases h
  | cons e t ih =>
    rcases k with _ | k
    · simp [evCells]
    · have := ih k (by simpa using h)
      rw [show (k + 1) * 3 = k * 3 + 3 by omega, show k * 3 + 3 + 1 = k * 3 + 1 + 3 by omega, show k * 3 + 3 + 2 = k * 3 + 2 + 3 by omega]
      simpa [evCells] using this
theorem ev_at {w : World} {B n : Nat} {A : Option Addr} {l : List Ev} (h : Rd w B 3 A n (evCells l)) (k : Nat) (hk : k < n) :
    ∃ b off, A = some ⟨b, off, none⟩ ∧ b < B ∧ ∃ (hk : k < l.length), w.cell? ⟨b, off + k * 3, none⟩ = some (.int .i64 l[k].at_) ∧ w.cell? ⟨b, off + k * 3 + 1, none⟩ = some (.int .u8 l[k].val) ∧ w.cell? ⟨b, off + k * 3 + 2, none⟩ = some (.int .i64 l[k].fl) := by
  have hl : l.length = n := by have h1 := h.1; rw [evCells_length] at h1; omega
  obtain ⟨b, off, e, hb, hc⟩ := h.2 (by omega)
  have hk2 : k < l.length := by omega
  obtain ⟨g0, g1, g2⟩ := evCells_get l k hk2
  exact ⟨b, off, e, hb, hk2, hc _ _ g0, hc _ _ g1, hc _ _ g2⟩
theorem Rd.elen {w : World} {B n : Nat} {A : Option Addr} {l : List Ev} (h : Rd w B 3 A n (evCells l)) : l.length = n := by
  have h1 := h.1; rw [evCells_length] at h1; omega
theorem frInfo : (Try.prog.info? 46).map (fun i => (i.zero, i.size, i.bytes)) = some (some (.agg #[.slice none 0 0, .int .i64 0, .int .i64 0, .int .i64 0]), 4, 48) := by kernel_rfl
end Go.Proofs.Ytoliplochipoeaa

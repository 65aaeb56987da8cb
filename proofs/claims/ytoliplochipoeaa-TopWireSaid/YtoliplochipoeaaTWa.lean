/- TopWire: the settings, the bits, Decode of Encode. -/
import Derived.Test.YtoliplochipoeaaTPl
import Derived.Test.YtoliplochipoeaaTAdu
import Derived.Test.YtoliplochipoeaaTReqM
import Derived.Test.YtoliplochipoeaaTReqD
set_option linter.unusedVariables false
set_option linter.unusedSimpArgs false
namespace Go.Proofs.Ytoliplochipoeaa
open Go.RowKit

theorem stCells_at (l : List (Int × Int)) (k : Nat) (hk : k < l.length) : (stCells l)[k * 2]? = some (.int .i64 l[k].1) ∧ (stCells l)[k * 2 + 1]? = some (.int .i64 l[k].2) := by
  have h : ∀ r ∈ l.map stRow, r.length = 2 := by intro r hr; obtain ⟨o, _, rfl⟩ := List.mem_map.1 hr; rfl
  have g := fun j (hj : j < 2) => flatten_get h k j (by simpa using hk) hj
  refine ⟨?_, ?_⟩
  · have := g 0 (by omega); simpa [stCells, stRow] using this
  · have := g 1 (by omega); simpa [stCells, stRow] using this
theorem set24 (k : Nat) (hk : k < 24) : ∃ b p : Int, (stCells allL)[k * 2]? = some (.int .i64 b) ∧ (stCells allL)[k * 2 + 1]? = some (.int .i64 p) ∧ 0 ≤ p ∧ p ≤ 2 ∧ validB b p = true ∧ 0 ≤ charZ b p ∧ charZ b p ≤ 10000 ∧ 6 * charZ b p / 11 + 1 ≤ t15Z b p ∧ t15Z b p < t35Z b p := by
  have hl : k < allL.length := by rw [all_length]; exact hk
  obtain ⟨h1, h2⟩ := stCells_at allL k hl
  have h : ∀ k : Fin 24, 0 ≤ (allL[(k : Nat)]'(by rw [all_length]; exact k.2)).2 ∧ (allL[(k : Nat)]'(by rw [all_length]; exact k.2)).2 ≤ 2 ∧ validB (allL[(k : Nat)]'(by rw [all_length]; exact k.2)).1 (allL[(k : Nat)]'(by rw [all_length]; exact k.2)).2 = true ∧ 0 ≤ charZ (allL[(k : Nat)]'(by rw [all_length]; exact k.2)).1 (allL[(k : Nat)]'(by rw [all_length]; exact k.2)).2 ∧ charZ (allL[(k : Nat)]'(by rw [all_length]; exact k.2)).1 (allL[(k : Nat)]'(by rw [all_length]; exact k.2)).2 ≤ 10000 ∧ 6 * charZ (allL[(k : Nat)]'(by rw [all_length]; exact k.2)).1 (allL[(k : Nat)]'(by rw [all_length]; exact k.2)).2 / 11 + 1 ≤ t15Z (allL[(k : Nat)]'(by rw [all_length]; exact k.2)).1 (allL[(k : Nat)]'(by rw [all_length]; exact k.2)).2 ∧ t15Z (allL[(k : Nat)]'(by rw [all_length]; exact k.2)).1 (allL[(k : Nat)]'(by rw [all_length]; exact k.2)).2 < t35Z (allL[(k : Nat)]'(by rw [all_length]; exact k.2)).1 (allL[(k : Nat)]'(by rw [all_length]; exact k.2)).2 := by decide +kernel
  exact ⟨_, _, h1, h2, h ⟨k, hk⟩⟩
/-- Idle bits ahead of character k. -/
def ids7 (is : List Int) (k : Nat) : Nat := if k < is.length then (is.getD k 0).toNat % 7 else 0
theorem ids7_le (is : List Int) (k : Nat) : ids7 is k ≤ 6 := by unfold ids7; split <;> omega
/-- With two idle bits in front. -/
def ids2 (ds : Nat → Nat) (k : Nat) : Nat := if k = 0 then ds 0 + 2 else ds k
theorem line_two (bs ds : Nat → Nat) (p : Int) (k : Nat) (hk : 1 ≤ k) : [true, true] ++ lineTo bs ds p k = lineTo bs (ids2 ds) p k := by
  obtain ⟨j, rfl⟩ : ∃ j, k = j + 1 := ⟨k - 1, by omega⟩
  clear hk
  induction j with
  | zero =>
    have e : ids2 ds 0 = ds 0 + 1 + 1 := rfl
    simp only [lineTo, e, List.replicate_succ, List.nil_append, List.cons_append]
  | succ j ih =>
    have e1 : lineTo bs ds p (j + 1 + 1) = lineTo bs ds p (j + 1) ++ List.replicate (ds (j + 1)) true ++ encode (bs (j + 1)) p := rfl
    have e2 : lineTo bs (ids2 ds) p (j + 1 + 1) = lineTo bs (ids2 ds) p (j + 1) ++ List.replicate (ds (j + 1)) true ++ encode (bs (j + 1)) p := rfl
    rw [e1, e2, ← ih]
    simp only [List.append_assoc]
theorem pos_two (ds : Nat → Nat) (k : Nat) (hk : 1 ≤ k) : posTo (ids2 ds) k = posTo ds k + 2 := by
  obtain ⟨j, rfl⟩ : ∃ j, k = j + 1 := ⟨k - 1, by omega⟩
  clear hk
  induction j with
  | zero => simp [posTo, ids2] <;> omega
  | succ j ih =>
    have e1 : posTo ds (j + 1 + 1) = posTo ds (j + 1) + ds (j + 1) + 11 := rfl
    have e2 : posTo (ids2 ds) (j + 1 + 1) = posTo (ids2 ds) (j + 1) + ds (j + 1) + 11 := rfl
    omega
theorem pos7_le (ds : Nat → Nat) (h : ∀ k, ds k ≤ 6) (k : Nat) : posTo ds k ≤ 17 * k := by
  induction k with
  | zero => simp [posTo]
  | succ k ih => have := h k; rw [posTo]; omega
theorem encL_bd {f a n c o : Int} (hv : vq f a n c o = true) : (∀ x ∈ encL f a n c o, 0 ≤ x ∧ x ≤ 255) ∧ 1 ≤ (encL f a n c o).length ∧ (encL f a n c o).length ≤ 5 := by
  rcases vq_cases hv with ⟨rfl, rfl, rfl, rfl, rfl⟩ | ⟨rfl, h1, h2, h3, h4, rfl, rfl⟩ | ⟨h1, h2, h3, h4, h5, h6, h7, rfl, rfl⟩
  · refine ⟨?_, by decide, by decide⟩
    intro x hx; simp [encL] at hx; omega
  · rw [encL, if_neg (by omega), if_pos rfl]
    refine ⟨?_, by simp, by simp⟩
    intro x hx
    simp only [List.mem_cons, List.not_mem_nil, or_false] at hx
    omega
  · rw [encL, if_neg (by omega), if_neg (by omega)]
    refine ⟨?_, by simp, by simp⟩
    intro x hx
    simp only [List.mem_cons, List.not_mem_nil, or_false] at hx
    omega
/-- Decode reads what Encode writes. -/
theorem dec_of_enc {f a n c o : Int} (hv : vq f a n c o = true) (A : Option Addr) (m cap : Nat) (w : World) (hm : (encL f a n c o).length = m) (hr : Rd w w.heap.size 1 A m (by8 (encL f a n c o))) :
    Calls Try.prog 15 #[.slice A m cap] w fun e w' => e = .returned (.tuple #[qv f a n c o, .int .i64 0]) ∧ Below w.heap.size w w' := by
  rcases vq_cases hv with ⟨rfl, rfl, rfl, rfl, rfl⟩ | ⟨rfl, h1, h2, h3, h4, rfl, rfl⟩ | ⟨h1, h2, h3, h4, h5, h6, h7, rfl, rfl⟩
  · obtain rfl : m = 1 := by rw [← hm]; rfl
    obtain ⟨b, off, rfl, hb, hc⟩ := hr.get8 (by omega)
    exact dec_srvY 0 b off cap w hb rfl (by simpa using hc 0 17 rfl)
  · have e : encL 43 0 0 c o = [43, 14, c, o] := by rw [encL, if_neg (by omega), if_pos rfl]
    rw [e] at hm hr
    obtain rfl : m = 4 := by rw [← hm]; rfl
    obtain ⟨b, off, rfl, hb, hc⟩ := hr.get8 (by omega)
    exact dec_devY c o b off cap w hb hv (by omega) (by omega) (by simpa using hc 0 43 rfl) (hc 1 14 rfl) (hc 2 c rfl) (hc 3 o rfl)
  · have e : encL f a n 0 0 = [f, a / 256, a % 256, n / 256, n % 256] := by rw [encL, if_neg (by omega), if_neg (by omega)]
    rw [e] at hm hr
    obtain rfl : m = 5 := by rw [← hm]; rfl
    obtain ⟨b, off, rfl, hb, hc⟩ := hr.get8 (by omega)
    exact dec_tabY f (a / 256) (a % 256) (n / 256) (n % 256) a n b off cap w hb h1 h2 (by omega) (by omega) (by omega) (by omega) (by omega) (by omega) hv (by simpa using hc 0 f rfl) (hc 1 _ rfl) (hc 2 _ rfl) (hc 3 _ rfl) (hc 4 _ rfl)
theorem bs_vals {fs : List Int} (hb : ∀ x ∈ fs, 0 ≤ x ∧ x ≤ 255) (n : Nat) (hn : fs.length = n) : (List.range n).map (fun j => ((bsOf fs j : Nat) : Int)) = fs := by
  apply List.ext_getElem?
  intro j
  rw [List.getElem?_map]
  by_cases h : j < n
  · have hj : j < fs.length := by omega
    have := hb fs[j] (List.getElem_mem _)
    rw [List.getElem?_range h, List.getElem?_eq_getElem hj]
    simp only [Option.map_some, bsOf, List.getD, List.getElem?_eq_getElem hj, Option.getD_some]
    congr 1
    omega
  · rw [List.getElem?_eq_none (by simp; omega), List.getElem?_eq_none (by omega)]; rfl
end Go.Proofs.Ytoliplochipoeaa

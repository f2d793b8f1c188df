/- Rows whose elements are two or three numbers, written in place. No function of the program is walked here. -/
import Derived.Test.YtbmibaafkgleeaaRowAll
namespace Go.Proofs.Ytbmibaafkgleeaa
open Go.RowKit
set_option linter.unusedVariables false
set_option linter.unusedSimpArgs false

def flat3 (a b c : Nat → Int) (M : Nat) : List Int := (List.range (M * 3)).map fun k => if k % 3 = 0 then a (k / 3) else if k % 3 = 1 then b (k / 3) else c (k / 3)
def flat2 (a b : Nat → Int) (M : Nat) : List Int := (List.range (M * 2)).map fun k => if k % 2 = 0 then a (k / 2) else b (k / 2)
def putF (a : Nat → Int) (i : Nat) (v : Int) : Nat → Int := fun j => if j = i then v else a j
variable {a b c a' b' c' : Nat → Int} {M i : Nat} {v : Int}
theorem flat3_length : (flat3 a b c M).length = M * 3 := by simp [flat3]
theorem flat2_length : (flat2 a b M).length = M * 2 := by simp [flat2]
theorem flat3_getD {k : Nat} (h : k < M * 3) : (flat3 a b c M).getD k 0 = if k % 3 = 0 then a (k / 3) else if k % 3 = 1 then b (k / 3) else c (k / 3) := by
  simp [flat3, List.getD_eq_getElem?_getD, h]
theorem flat2_getD {k : Nat} (h : k < M * 2) : (flat2 a b M).getD k 0 = if k % 2 = 0 then a (k / 2) else b (k / 2) := by
  simp [flat2, List.getD_eq_getElem?_getD, h]
theorem flat3_0 (h : i < M) : (flat3 a b c M).getD (i * 3) 0 = a i := by
  rw [flat3_getD (by omega), if_pos (by omega), Nat.mul_div_cancel _ (by decide)]
theorem flat3_1 (h : i < M) : (flat3 a b c M).getD (i * 3 + 1) 0 = b i := by
  rw [flat3_getD (by omega), if_neg (by omega), if_pos (by omega), show (i * 3 + 1) / 3 = i by omega]
theorem flat3_2 (h : i < M) : (flat3 a b c M).getD (i * 3 + 2) 0 = c i := by
  rw [flat3_getD (by omega), if_neg (by omega), if_neg (by omega), show (i * 3 + 2) / 3 = i by omega]
theorem flat2_0 (h : i < M) : (flat2 a b M).getD (i * 2) 0 = a i := by
  rw [flat2_getD (by omega), if_pos (by omega), Nat.mul_div_cancel _ (by decide)]
theorem flat2_1 (h : i < M) : (flat2 a b M).getD (i * 2 + 1) 0 = b i := by
  rw [flat2_getD (by omega), if_neg (by omega), show (i * 2 + 1) / 2 = i by omega]
theorem list_ext_getD {xs ys : List Int} (hl : xs.length = ys.length) (h : ∀ k, k < xs.length → xs.getD k 0 = ys.getD k 0) : xs = ys := by
  refine List.ext_getElem hl fun k h1 h2 => ?_
  have := h k h1
  simpa [List.getD_eq_getElem?_getD, h1, h2] using this
theorem set_getD {xs : List Int} {j k : Nat} {v : Int} (hk : k < xs.length) : (xs.set j v).getD k 0 = if j = k then v else xs.getD k 0 := by
  simp only [List.getD_eq_getElem?_getD, List.getElem?_set]
  by_cases e : j = k
  · subst e; simp [hk]
  · simp [e]
theorem flat3_congr (ha : ∀ i, i < M → a i = a' i) (hb : ∀ i, i < M → b i = b' i) (hc : ∀ i, i < M → c i = c' i) : flat3 a b c M = flat3 a' b' c' M := by
  refine list_ext_getD (by rw [flat3_length, flat3_length]) fun k hk => ?_
  rw [flat3_length] at hk
  rw [flat3_getD hk, flat3_getD hk, ha _ (by omega), hb _ (by omega), hc _ (by omega)]
theorem flat2_congr (ha : ∀ i, i < M → a i = a' i) (hb : ∀ i, i < M → b i = b' i) : flat2 a b M = flat2 a' b' M := by
  refine list_ext_getD (by rw [flat2_length, flat2_length]) fun k hk => ?_
  rw [flat2_length] at hk
  rw [flat2_getD hk, flat2_getD hk, ha _ (by omega), hb _ (by omega)]
theorem flat3_set0 (h : i < M) : (flat3 a b c M).set (i * 3) v = flat3 (putF a i v) b c M := by
  refine list_ext_getD (by rw [List.length_set, flat3_length, flat3_length]) fun k hk => ?_
  rw [List.length_set] at hk
  rw [set_getD hk]
  rw [flat3_length] at hk
  rw [flat3_getD hk, flat3_getD hk]
  unfold putF
  by_cases h0 : k % 3 = 0
  · by_cases h1 : i * 3 = k
    · rw [if_pos h1, if_pos h0, if_pos (by omega)]
    · rw [if_neg h1, if_pos h0, if_pos h0, if_neg (by omega)]
  · rw [if_neg (by omega : ¬ i * 3 = k), if_neg h0, if_neg h0]
theorem flat3_set1 (h : i < M) : (flat3 a b c M).set (i * 3 + 1) v = flat3 a (putF b i v) c M := by
  refine list_ext_getD (by rw [List.length_set, flat3_length, flat3_length]) fun k hk => ?_
  rw [List.length_set] at hk
  rw [set_getD hk]
  rw [flat3_length] at hk
  rw [flat3_getD hk, flat3_getD hk]
  unfold putF
  by_cases h0 : k % 3 = 1
  · by_cases h1 : i * 3 + 1 = k
    · rw [if_pos h1, if_neg (by omega), if_pos h0, if_pos (by omega)]
    · rw [if_neg h1, if_neg (by omega), if_pos h0, if_neg (by omega), if_pos h0, if_neg (by omega)]
  · rw [if_neg (by omega : ¬ i * 3 + 1 = k), if_neg h0, if_neg h0]
theorem flat3_set2 (h : i < M) : (flat3 a b c M).set (i * 3 + 2) v = flat3 a b (putF c i v) M := by
  refine list_ext_getD (by rw [List.length_set, flat3_length, flat3_length]) fun k hk => ?_
  rw [List.length_set] at hk
  rw [set_getD hk]
  rw [flat3_length] at hk
  rw [flat3_getD hk, flat3_getD hk]
  unfold putF
  by_cases h0 : k % 3 = 0
  · rw [if_neg (by omega : ¬ i * 3 + 2 = k), if_pos h0, if_pos h0]
  · by_cases h2 : k % 3 = 1
    · rw [if_neg (by omega : ¬ i * 3 + 2 = k), if_neg h0, if_pos h2, if_neg h0, if_pos h2]
    · rw [if_neg h0, if_neg h2, if_neg h0, if_neg h2]
      by_cases h1 : i * 3 + 2 = k
      · rw [if_pos h1, if_pos (by omega)]
      · rw [if_neg h1, if_neg (by omega)]
theorem flat2_set0 (h : i < M) : (flat2 a b M).set (i * 2) v = flat2 (putF a i v) b M := by
  refine list_ext_getD (by rw [List.length_set, flat2_length, flat2_length]) fun k hk => ?_
  rw [List.length_set] at hk
  rw [set_getD hk]
  rw [flat2_length] at hk
  rw [flat2_getD hk, flat2_getD hk]
  unfold putF
  by_cases h0 : k % 2 = 0
  · by_cases h1 : i * 2 = k
    · rw [if_pos h1, if_pos h0, if_pos (by omega)]
    · rw [if_neg h1, if_pos h0, if_pos h0, if_neg (by omega)]
  · rw [if_neg (by omega : ¬ i * 2 = k), if_neg h0, if_neg h0]
theorem flat2_set1 (h : i < M) : (flat2 a b M).set (i * 2 + 1) v = flat2 a (putF b i v) M := by
  refine list_ext_getD (by rw [List.length_set, flat2_length, flat2_length]) fun k hk => ?_
  rw [List.length_set] at hk
  rw [set_getD hk]
  rw [flat2_length] at hk
  rw [flat2_getD hk, flat2_getD hk]
  unfold putF
  by_cases h0 : k % 2 = 0
  · rw [if_neg (by omega : ¬ i * 2 + 1 = k), if_pos h0, if_pos h0]
  · rw [if_neg h0, if_neg h0]
    by_cases h1 : i * 2 + 1 = k
    · rw [if_pos h1, if_pos (by omega)]
    · rw [if_neg h1, if_neg (by omega)]

/-- one cell of an owned row of numbers, whatever the size of its elements -/
theorem own_cell {k : IntKind} {w : World} {B g n cap s : Nat} {e : TypeId} {xs : List Int} (h : w.ownsRow B e s (.slice (some ⟨g, 0, none⟩) n cap) n (xs.map (Value.int k))) {j : Nat} (hj : j < xs.length) :
    w.cell? ⟨g, j, none⟩ = some (.int k (xs.getD j 0)) ∧ w.frozen? ⟨g, j, none⟩ = false := by
  have hl : xs.length = n * s := by have := h.1; simpa using this
  refine ⟨?_, h.frozenAt j⟩
  rw [h.cellAt j (by omega), List.getElem?_map, List.getElem?_eq_getElem hj]
  simp [List.getD_eq_getElem?_getD, hj]
theorem own_set {k : IntKind} {w : World} {B g n cap s : Nat} {e : TypeId} {xs : List Int} (h : w.ownsRow B e s (.slice (some ⟨g, 0, none⟩) n cap) n (xs.map (Value.int k))) (j : Nat) (y : Int) :
    (w.setCell ⟨g, j, none⟩ (.int k y)).ownsRow B e s (.slice (some ⟨g, 0, none⟩) n cap) n ((xs.set j y).map (Value.int k)) := by
  have := (h.stored j (.int k y)).1
  rw [List.map_set]
  exact this
theorem made_flat3 (n : Nat) : (madeCells #[Value.int .i64 0, .int .i64 0, .int .i64 0] (n * 3)).toList = (flat3 (fun _ => 0) (fun _ => 0) (fun _ => 0) n).map (Value.int .i64) := by
  refine List.ext_getElem (by simp [madeCells, flat3]) fun k h1 h2 => ?_
  have h3 : k % 3 = 0 ∨ k % 3 = 1 ∨ k % 3 = 2 := by omega
  rcases h3 with h3 | h3 | h3 <;> simp [madeCells, flat3, h3]
theorem made_flat2 (n : Nat) : (madeCells #[Value.int .i64 0, .int .i64 0] (n * 2)).toList = (flat2 (fun _ => 0) (fun _ => 0) n).map (Value.int .i64) := by
  refine List.ext_getElem (by simp [madeCells, flat2]) fun k h1 h2 => ?_
  have h3 : k % 2 = 0 ∨ k % 2 = 1 := by omega
  rcases h3 with h3 | h3 <;> simp [madeCells, flat2, h3]
end Go.Proofs.Ytbmibaafkgleeaa

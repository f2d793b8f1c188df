/- What is unlike is between what is told: plain words. No function of the program is walked here. -/
import Derived.Test.YtbmibaafkgleeaaSlAt
import Derived.Test.YtbmibaafkgleeaaTurnA
namespace Go.Proofs.Ytbmibaafkgleeaa
open Go.RowKit
set_option linter.unusedVariables false
set_option linter.unusedSimpArgs false

theorem atS_in {c : SlC} (hm : slMay c = true) {i : Nat} (hi : i < c.ks.length) : atS c i = if bitW c.ws i = true then (c.ks.getD i 0, c.vs.getD i 0, 0) else (0, 0, 6) := by
  have h : askS c i = 0 := by rw [askS, if_pos hm, if_pos ⟨by omega, by omega⟩]
  rw [atS, if_pos h, Int.toNat_natCast]
theorem alk_at {c d : SlC} (hm : slMay c = true) (hm' : slMay d = true) (hl : c.ks.length = d.ks.length) {S i : Nat} (hS : 0 < S) (hi : i < c.ks.length) (h : alkB c d S (i / S) = true) : atS c i = atS d i := by
  have h1 := Nat.div_mul_le_self i S
  have h2 := Nat.lt_div_mul_add hS (a := i)
  obtain ⟨e1, e2, e3⟩ := alkB_iff.1 h i h1 (by rw [Nat.add_mul, Nat.one_mul]; exact h2)
  rw [atS_in hm hi, atS_in hm' (by omega), e1, e2, e3]
/-- a slot that has not the same lies between what is told -/
theorem at_between {c d : SlC} (hm : slMay c = true) (hm' : slMay d = true) (hl : c.ks.length = d.ks.length) {S M i : Nat} (hS : 0 < S) (hk : c.ks.length = S * M) (hi : i < c.ks.length) (h : atS c i ≠ atS d i) : tuF c d S M ≤ i / S ∧ i / S < tuT c d S M := by
  have hM : i / S < M := by rw [Nat.div_lt_iff_lt_mul hS, Nat.mul_comm]; omega
  constructor
  · apply Nat.le_of_not_lt
    intro hc
    exact h (alk_at hm hm' hl hS hi (tu_like hM (.inl hc)))
  · apply Nat.lt_of_not_le
    intro hc
    exact h (alk_at hm hm' hl hS hi (tu_like hM (.inr hc)))
/-- one is told only if there is one -/
theorem tu_none {c d : SlC} {S M : Nat} (h : tuF c d S M = tuT c d S M) : tuF c d S M = 0 := by
  unfold tuF tuT at *
  by_cases e : fromU c d S M = M
  · rw [if_pos e]
  · rw [if_neg e, if_neg e] at h
    exfalso
    have h1 := fromU_le c d S M
    have h2 := fromU_not (c := c) (d := d) (S := S) (M := M) (by omega)
    rw [toU_like (M := M) (by omega) (by omega)] at h2
    cases h2
theorem tu_first {c d : SlC} {S M : Nat} (h : tuF c d S M < tuT c d S M) : alkB c d S (tuF c d S M) = false := by
  unfold tuF tuT at *
  by_cases e : fromU c d S M = M
  · rw [if_pos e, if_pos e] at h; omega
  · rw [if_neg e]
    have h1 := fromU_le c d S M
    exact fromU_not (by omega)
/-- has a part the same pairs, and the same slots? -/
def smB (c d : SlC) (lo k : Nat) (s : Bool) : Bool := s && (List.range' lo (k - lo)).all fun j => (atS c j).2.2 == (atS d j).2.2
theorem smB_start {c d : SlC} {lo : Nat} {s : Bool} : smB c d lo lo s = s := by simp [smB]
theorem smB_step {c d : SlC} {lo k : Nat} {s : Bool} (h : lo ≤ k) : smB c d lo (k + 1) s = (smB c d lo k s && ((atS c k).2.2 == (atS d k).2.2)) := by
  unfold smB
  rw [show k + 1 - lo = (k - lo) + 1 by omega, List.range'_concat, List.all_append, show lo + 1 * (k - lo) = k by omega]
  simp [Bool.and_assoc]
theorem not_sm {c d : SlC} (hm : slMay c = true) (hm' : slMay d = true) (hl : c.ks.length = d.ks.length) {S k : Nat} (hk : (k + 1) * S ≤ c.ks.length) (h : alkB c d S k = false) :
    smB c d (k * S) ((k + 1) * S) (decide (prs c (k * S) ((k + 1) * S) = prs d (k * S) ((k + 1) * S))) = false := by
  rw [Bool.eq_false_iff]
  intro e
  have h' : ¬ alkB c d S k = true := by rw [h]; decide
  apply h'
  simp only [smB, Bool.and_eq_true, decide_eq_true_eq, List.all_eq_true, List.mem_range'_1, beq_iff_eq] at e
  obtain ⟨e1, e2⟩ := e
  have hb : ∀ i, k * S ≤ i → i < (k + 1) * S → bitW c.ws i = bitW d.ws i := by
    intro i i1 i2
    have := e2 i ⟨i1, by omega⟩
    rw [atS_in hm (by omega), atS_in hm' (by omega)] at this
    cases b1 : bitW c.ws i <;> cases b2 : bitW d.ws i <;> simp [b1, b2] at this ⊢
  have hp : plsW c.ws (k * S) ((k + 1) * S) = plsW d.ws (k * S) ((k + 1) * S) := by
    unfold plsW
    apply List.filter_congr
    intro i hi
    have := List.mem_range'_1.1 hi
    exact hb i this.1 (by omega)
  unfold prs at e1
  rw [hp] at e1
  have hx := List.map_inj_left.1 e1
  have clr : ∀ (c : SlC), slMay c = true → ∀ i, i < c.ks.length → bitW c.ws i = false → c.ks.getD i 0 = 0 ∧ c.vs.getD i 0 = 0 := by
    intro c hm i hi hb
    simp only [slMay, Bool.and_eq_true] at hm
    have h1 := hm.1.2
    simp only [clrB, List.all_eq_true, List.mem_range, Bool.or_eq_true, Bool.and_eq_true, beq_iff_eq] at h1
    have h2 := h1 i hi
    rcases h2 with h2 | h2
    · rw [hb] at h2; cases h2
    · exact h2
  refine alkB_iff.2 fun i i1 i2 => ⟨hb i i1 i2, ?_⟩
  cases b : bitW c.ws i with
  | true =>
    have hmem : i ∈ plsW d.ws (k * S) ((k + 1) * S) := by
      rw [← hp, plsW, List.mem_filter, List.mem_range'_1]
      exact ⟨⟨i1, by omega⟩, b⟩
    have := hx i hmem
    exact ⟨congrArg Prod.fst this, congrArg Prod.snd this⟩
  | false =>
    obtain ⟨z1, z2⟩ := clr c hm i (by omega) b
    obtain ⟨z3, z4⟩ := clr d hm' i (by omega) (by rw [← hb i i1 i2]; exact b)
    exact ⟨by rw [z1, z3], by rw [z2, z4]⟩
end Go.Proofs.Ytbmibaafkgleeaa

/- Merged: MendPl, MendTu. -/
import Derived.Test.YtbmibaafkgleeaaIdxLaw
import Derived.Test.YtbmibaafkgleeaaDwnP
namespace Go.Proofs.Ytbmibaafkgleeaa
set_option linter.unusedVariables false
set_option linter.unusedSimpArgs false
section
open Go.RowKit

def upd (f : Nat → Int) (n : Nat) (v : Int) : Nat → Int := fun m => if m = n then v else f m
theorem lay_set {L : Nat} (hL : 1 ≤ L) (f : Nat → Int) {n : Nat} (h1 : 1 ≤ n) (h2 : n < 2 ^ L) (v : Int) : ((lay L 1).map f).set (vpos L n) v = (lay L 1).map (upd f n v) := by
  obtain ⟨p1, p2⟩ := vpos_lay hL h1 h2
  have hl := lay_len 1 hL
  refine List.ext_getElem (by simp) fun p q1 q2 => ?_
  have hp : p < 2 ^ L - 1 := by simpa [hl] using q2
  have e1 := lay_vpos hL hp
  rw [List.getD_eq_getElem?_getD, List.getElem?_eq_getElem (by omega), Option.getD_some] at e1
  rw [List.getElem_set, List.getElem_map, List.getElem_map, upd]
  by_cases h : vpos L n = p
  · subst h
    rw [List.getD_eq_getElem?_getD, List.getElem?_eq_getElem (by omega), Option.getD_some] at p2
    rw [if_pos rfl, if_pos p2]
  · rw [if_neg h, if_neg (fun e => h (by rw [← e]; exact e1))]
theorem lay_get {L : Nat} (hL : 1 ≤ L) (f : Nat → Int) {n : Nat} (h1 : 1 ≤ n) (h2 : n < 2 ^ L) : ((lay L 1).map f).getD (vpos L n) 0 = f n := by
  obtain ⟨p1, p2⟩ := vpos_lay hL h1 h2
  have hl := lay_len 1 hL
  rw [List.getD_eq_getElem?_getD, List.getElem?_eq_getElem (by omega), Option.getD_some] at p2
  rw [List.getD_eq_getElem?_getD, List.getElem?_map, List.getElem?_eq_getElem (by omega)]
  simp [p2]
theorem lay_whole {L : Nat} (hL : 1 ≤ L) {ms : List Int} (hm : ms.length = 2 ^ L - 1) : ms = (lay L 1).map (tlF L ms) := by
  have hl := lay_len 1 hL
  refine List.ext_getElem (by simp; omega) fun p q1 q2 => ?_
  have hp : p < 2 ^ L - 1 := by omega
  have e1 := lay_vpos hL hp
  obtain ⟨b1, b2⟩ := lay_in hL hp
  rw [List.getElem_map]
  rw [List.getD_eq_getElem?_getD, List.getElem?_eq_getElem (by omega), Option.getD_some] at e1 b1 b2
  rw [tlF, if_neg (by omega), pcF, if_neg (by omega), plc_get hL b1 (by omega), e1, Int.toNat_natCast, List.getD_eq_getElem?_getD, List.getElem?_eq_getElem q1, Option.getD_some]

/-- what a node tells of the two below it -/
def jnT (p q : Int × Int) : Int × Int := (if 0 < q.2 then q.1 else p.1, wrap64 (p.2 + q.2))
/-- is a node of height h above a segment from lo to hi? -/
def hitB (F lo hi h n : Nat) : Bool := (List.range hi).any fun s => decide (lo ≤ s) && decide ((F + s) / 2 ^ h = n)
theorem hitB_iff {F lo hi h n : Nat} : hitB F lo hi h n = true ↔ ∃ s, lo ≤ s ∧ s < hi ∧ (F + s) / 2 ^ h = n := by
  simp only [hitB, List.any_eq_true, List.mem_range, Bool.and_eq_true, decide_eq_true_eq]
  constructor
  · rintro ⟨s, h1, h2, h3⟩; exact ⟨s, h2, h1, h3⟩
  · rintro ⟨s, h1, h2, h3⟩; exact ⟨s, h2, h1, h3⟩
/-- told up to a height -/
def gH (lf t0 : Nat → Int × Int) (F lo hi : Nat) : Nat → Nat → Int × Int
  | 0, n => if hitB F lo hi 0 n = true then lf (n - F) else t0 n
  | h + 1, n => if hitB F lo hi (h + 1) n = true then jnT (gH lf t0 F lo hi h (2 * n)) (gH lf t0 F lo hi h (2 * n + 1)) else gH lf t0 F lo hi h n
theorem hit0 {F lo hi n : Nat} : hitB F lo hi 0 n = true ↔ F + lo ≤ n ∧ n < F + hi := by
  rw [hitB_iff]
  constructor
  · rintro ⟨s, h1, h2, h3⟩
    rw [Nat.pow_zero, Nat.div_one] at h3
    omega
  · rintro ⟨h1, h2⟩
    exact ⟨n - F, by omega, by omega, by rw [Nat.pow_zero, Nat.div_one]; omega⟩
theorem hit_none {F lo h n : Nat} : hitB F lo lo h n = false := by
  rw [Bool.eq_false_iff]
  intro e
  obtain ⟨s, h1, h2, -⟩ := hitB_iff.1 e
  omega
theorem hit_succ {F lo hi h n : Nat} : hitB F lo hi (h + 1) n = true ↔ ∃ m, hitB F lo hi h m = true ∧ m / 2 = n := by
  rw [hitB_iff]
  constructor
  · rintro ⟨s, h1, h2, h3⟩
    exact ⟨_, hitB_iff.2 ⟨s, h1, h2, rfl⟩, by rw [Nat.div_div_eq_div_mul, ← Nat.pow_succ]; exact h3⟩
  · rintro ⟨m, hm, h3⟩
    obtain ⟨s, h1, h2, rfl⟩ := hitB_iff.1 hm
    rw [Nat.div_div_eq_div_mul, ← Nat.pow_succ] at h3
    exact ⟨s, h1, h2, h3⟩
theorem hit_range {D lo hi h n : Nat} (hhi : hi ≤ 2 ^ D) (hh : h ≤ D) (e : hitB (2 ^ D) lo hi h n = true) : 2 ^ (D - h) ≤ n ∧ n < 2 * 2 ^ (D - h) := by
  obtain ⟨s, h1, h2, rfl⟩ := hitB_iff.1 e
  have ep : 2 ^ D = 2 ^ (D - h) * 2 ^ h := by rw [← Nat.pow_add]; congr 1; omega
  have hp := Nat.two_pow_pos h
  constructor
  · rw [Nat.le_div_iff_mul_le hp, ← ep]; omega
  · rw [Nat.div_lt_iff_lt_mul hp, Nat.mul_assoc, ← ep]; omega
theorem hit_top {D lo hi n : Nat} (hhi : hi ≤ 2 ^ D) (e : hitB (2 ^ D) lo hi (D + 1) n = true) : n = 0 := by
  obtain ⟨s, h1, h2, rfl⟩ := hitB_iff.1 e
  rw [Nat.div_eq_of_lt]
  rw [Nat.pow_succ]
  omega
/-- one leaf more -/
theorem gH_leaf {lf t0 : Nat → Int × Int} {F lo i n : Nat} : gH lf t0 F lo (lo + (i + 1)) 0 n = if n = F + (lo + i) then lf (lo + i) else gH lf t0 F lo (lo + i) 0 n := by
  unfold gH
  by_cases h : n = F + (lo + i)
  · rw [if_pos h, if_pos (hit0.2 (by omega)), h, Nat.add_sub_cancel_left]
  · rw [if_neg h]
    by_cases h2 : hitB F lo (lo + i) 0 n = true
    · rw [if_pos h2, if_pos (hit0.2 (by have := hit0.1 h2; omega))]
    · rw [if_neg h2, if_neg (fun e => h2 (hit0.2 (by have := hit0.1 e; omega)))]
/-- within a level -/
def gM (lf t0 : Nat → Int × Int) (F lo hi h : Nat) (done : Nat → Bool) (n : Nat) : Int × Int :=
  if hitB F lo hi (h + 1) n = true ∧ done n = true then jnT (gH lf t0 F lo hi h (2 * n)) (gH lf t0 F lo hi h (2 * n + 1)) else gH lf t0 F lo hi h n
theorem gM_none {lf t0 : Nat → Int × Int} {F lo hi h : Nat} {done : Nat → Bool} (hd : ∀ n, hitB F lo hi (h + 1) n = true → n ≠ 0 → done n = false) {n : Nat} (hn : n ≠ 0) : gM lf t0 F lo hi h done n = gH lf t0 F lo hi h n := by
  unfold gM
  rw [if_neg]
  rintro ⟨h1, h2⟩
  rw [hd n h1 hn] at h2
  cases h2
theorem gM_all {lf t0 : Nat → Int × Int} {F lo hi h : Nat} {done : Nat → Bool} (hd : ∀ n, hitB F lo hi (h + 1) n = true → n ≠ 0 → done n = true) {n : Nat} (hn : n ≠ 0) : gM lf t0 F lo hi h done n = gH lf t0 F lo hi (h + 1) n := by
  unfold gM
  rw [gH]
  by_cases h1 : hitB F lo hi (h + 1) n = true
  · rw [if_pos ⟨h1, hd n h1 hn⟩, if_pos h1]
  · rw [if_neg (fun e => h1 e.1), if_neg h1]
/-- the node n is joined -/
theorem gM_step {lf t0 : Nat → Int × Int} {D lo hi h : Nat} {done : Nat → Bool} (hhi : hi ≤ 2 ^ D) (hh : h + 1 ≤ D) {n : Nat} (hn : hitB (2 ^ D) lo hi (h + 1) n = true) :
    gM lf t0 (2 ^ D) lo hi h done (2 * n) = gH lf t0 (2 ^ D) lo hi h (2 * n) ∧ gM lf t0 (2 ^ D) lo hi h done (2 * n + 1) = gH lf t0 (2 ^ D) lo hi h (2 * n + 1) ∧
    ∀ m, gM lf t0 (2 ^ D) lo hi h (fun x => done x || x == n) m = if m = n then jnT (gH lf t0 (2 ^ D) lo hi h (2 * n)) (gH lf t0 (2 ^ D) lo hi h (2 * n + 1)) else gM lf t0 (2 ^ D) lo hi h done m := by
  have hr := hit_range hhi hh hn
  have hp := Nat.two_pow_pos (D - (h + 1))
  refine ⟨?_, ?_, fun m => ?_⟩
  · unfold gM
    rw [if_neg]
    rintro ⟨e, -⟩
    have := hit_range hhi hh e
    omega
  · unfold gM
    rw [if_neg]
    rintro ⟨e, -⟩
    have := hit_range hhi hh e
    omega
  · by_cases hm : m = n
    · subst hm
      rw [if_pos rfl, gM, if_pos ⟨hn, by simp⟩]
    · rw [if_neg hm]
      unfold gM
      have : (done m || m == n) = done m := by simp [hm]
      simp only [this]
end

section
open Go.RowKit

/-- have two arrays the same in a segment? -/
def alkB (c d : SlC) (S k : Nat) : Bool := (List.range' (k * S) S).all fun i => (bitW c.ws i == bitW d.ws i) && decide (c.ks.getD i 0 = d.ks.getD i 0) && decide (c.vs.getD i 0 = d.vs.getD i 0)
theorem alkB_iff {c d : SlC} {S k : Nat} : alkB c d S k = true ↔ ∀ i, k * S ≤ i → i < (k + 1) * S → bitW c.ws i = bitW d.ws i ∧ c.ks.getD i 0 = d.ks.getD i 0 ∧ c.vs.getD i 0 = d.vs.getD i 0 := by
  have e : (k + 1) * S = k * S + S := by rw [Nat.add_mul, Nat.one_mul]
  simp only [alkB, List.all_eq_true, List.mem_range'_1, Bool.and_eq_true, beq_iff_eq, decide_eq_true_eq]
  constructor
  · intro h i h1 h2
    have := h i ⟨h1, by omega⟩
    exact ⟨this.1.1, this.1.2, this.2⟩
  · intro h i hi
    have := h i hi.1 (by omega)
    exact ⟨⟨this.1, this.2.1⟩, this.2.2⟩
/-- the first segment that is unlike, from the left; M: none -/
def fromU (c d : SlC) (S M : Nat) : Nat := ((List.range' 0 M).find? fun k => !alkB c d S k).getD M
/-- and behind the last one -/
def toU (c d : SlC) (S : Nat) : Nat → Nat
  | 0 => 0
  | n + 1 => if alkB c d S n = true then toU c d S n else n + 1
theorem fromU_like {c d : SlC} {S M k : Nat} (h : k < fromU c d S M) : alkB c d S k = true := by
  unfold fromU at h
  cases e : (List.range' 0 M).find? fun k => !alkB c d S k with
  | none =>
    rw [e] at h
    rw [List.find?_eq_none] at e
    have := e k (List.mem_range'_1.2 ⟨Nat.zero_le _, by simpa using h⟩)
    simpa using this
  | some i =>
    rw [e] at h
    rw [List.find?_eq_some_iff_getElem] at e
    obtain ⟨-, j, hj, e2, e3⟩ := e
    rw [List.getElem_range'] at e2
    have := e3 k (by simp at h; omega)
    rw [List.getElem_range', show 0 + 1 * k = k by omega] at this
    simpa using this
theorem fromU_le (c d : SlC) (S M : Nat) : fromU c d S M ≤ M := by
  unfold fromU
  cases e : (List.range' 0 M).find? fun k => !alkB c d S k with
  | none => exact Nat.le_refl _
  | some i =>
    have := List.mem_range'_1.1 (List.mem_of_find?_eq_some e)
    simp; omega
theorem fromU_not {c d : SlC} {S M : Nat} (h : fromU c d S M < M) : alkB c d S (fromU c d S M) = false := by
  unfold fromU at h ⊢
  cases e : (List.range' 0 M).find? fun k => !alkB c d S k with
  | none => rw [e] at h; exact absurd h (Nat.lt_irrefl _)
  | some i =>
    have := List.find?_some e
    simpa using this
theorem fromU_is {c d : SlC} {S M k : Nat} (h1 : ∀ j, j < k → alkB c d S j = true) (h2 : k ≤ M) (h3 : k < M → alkB c d S k = false) : fromU c d S M = k := by
  rcases Nat.lt_trichotomy (fromU c d S M) k with h | h | h
  · have := fromU_not (c := c) (d := d) (S := S) (M := M) (by omega)
    rw [h1 _ h] at this
    cases this
  · exact h
  · have := fromU_like h
    rw [h3 (Nat.lt_of_lt_of_le h (fromU_le _ _ _ _))] at this
    cases this
theorem toU_le (c d : SlC) (S : Nat) : ∀ M, toU c d S M ≤ M := by
  intro M
  induction M with
  | zero => exact Nat.le_refl _
  | succ n ih => rw [toU]; split <;> omega
theorem toU_like {c d : SlC} {S : Nat} : ∀ {M k : Nat}, toU c d S M ≤ k → k < M → alkB c d S k = true := by
  intro M
  induction M with
  | zero => intro k _ h; omega
  | succ n ih =>
    intro k h1 h2
    rw [toU] at h1
    split at h1
    · by_cases e : k = n
      · subst e; assumption
      · exact ih h1 (by omega)
    · omega
theorem toU_not {c d : SlC} {S : Nat} : ∀ {M : Nat}, 0 < toU c d S M → alkB c d S (toU c d S M - 1) = false := by
  intro M
  induction M with
  | zero => intro h; cases h
  | succ n ih =>
    intro h
    rw [toU] at h ⊢
    split
    · rename_i e
      rw [if_pos e] at h
      exact ih h
    · rename_i e
      simpa using e
/-- behind the last, counted down from M: t -/
theorem toU_is {c d : SlC} {S : Nat} : ∀ {M t : Nat}, t ≤ M → (∀ k, t ≤ k → k < M → alkB c d S k = true) → toU c d S M = toU c d S t := by
  intro M
  induction M with
  | zero => intro t h _; rw [show t = 0 by omega]
  | succ n ih =>
    intro t h hk
    by_cases e : t = n + 1
    · rw [e]
    · rw [toU, if_pos (hk n (by omega) (by omega))]
      exact ih (by omega) fun k h1 h2 => hk k h1 (by omega)
/-- which segments are unlike: from, to -/
def tuF (c d : SlC) (S M : Nat) : Nat := if fromU c d S M = M then 0 else fromU c d S M
def tuT (c d : SlC) (S M : Nat) : Nat := if fromU c d S M = M then 0 else toU c d S M
/-- the numbers of the errors -/
def tuE (c d : SlC) : Int := if slMay c = true then (if slMay d = true then (if c.seg = d.seg ∧ c.ks.length = d.ks.length then 0 else 2) else 8) else 8
end
end Go.Proofs.Ytbmibaafkgleeaa

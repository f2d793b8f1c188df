/- Where a node stands in the layout of van Emde Boas: plain facts, no program. -/
import Derived.Test.YtbmibaafkgleeaaVebPlain
import Derived.Test.YtbmibaafkgleeaaHeapH
namespace Go.Proofs.Ytbmibaafkgleeaa
set_option linter.unusedVariables false
set_option linter.unusedSimpArgs false

/-- the place of the j-th node of a depth, in a tree of L levels -/
def pos (L d j : Nat) : Nat :=
  if h : L ≤ 1 then 0 else
    if d < L / 2 then pos (L / 2) d j
    else 2 ^ (L / 2) - 1 + j / 2 ^ (d - L / 2) * (2 ^ (L - L / 2) - 1) + pos (L - L / 2) (d - L / 2) (j % 2 ^ (d - L / 2))
termination_by L
decreasing_by all_goals omega

theorem pos_one (d j : Nat) : pos 1 d j = 0 := by rw [pos]; simp
theorem pos_up {L d : Nat} (j : Nat) (h : 2 ≤ L) (hd : d < L / 2) : pos L d j = pos (L / 2) d j := by
  rw [pos]; simp [show ¬ L ≤ 1 by omega, hd]
theorem pos_low {L d : Nat} (j : Nat) (h : 2 ≤ L) (hd : ¬ d < L / 2) : pos L d j = 2 ^ (L / 2) - 1 + j / 2 ^ (d - L / 2) * (2 ^ (L - L / 2) - 1) + pos (L - L / 2) (d - L / 2) (j % 2 ^ (d - L / 2)) := by
  rw [pos]; simp [show ¬ L ≤ 1 by omega, hd]

theorem flatMap_get (f : Nat → List Nat) (c : Nat) (hf : ∀ i, (f i).length = c) (i p n : Nat) (hi : i < n) (hp : p < c) : ((List.range n).flatMap f).getD (i * c + p) 0 = (f i).getD p 0 := by
  induction n with
  | zero => omega
  | succ n ih =>
    rw [List.range_succ, List.flatMap_append]
    have hl := length_flatMap_const f c hf n
    by_cases e : i = n
    · subst e
      rw [List.getD_eq_getElem?_getD, List.getElem?_append_right (by omega), hl, Nat.add_sub_cancel_left]
      simp
    · have hin : i < n := by omega
      have h1 : i * c + p < n * c := by
        have : (i + 1) * c ≤ n * c := Nat.mul_le_mul_right _ hin
        rw [Nat.add_mul, Nat.one_mul] at this
        omega
      rw [List.getD_eq_getElem?_getD, List.getElem?_append_left (by omega), ← List.getD_eq_getElem?_getD]
      exact ih hin

theorem pow_half (L : Nat) : 2 ^ L = 2 ^ (L / 2) * 2 ^ (L - L / 2) := by rw [← Nat.pow_add]; congr 1; omega
theorem size_half (L : Nat) : 2 ^ L - 1 = 2 ^ (L / 2) - 1 + 2 ^ (L / 2) * (2 ^ (L - L / 2) - 1) := by
  have p1 := Nat.two_pow_pos (L / 2)
  have p2 : 2 ^ (L / 2) * 1 ≤ 2 ^ (L / 2) * 2 ^ (L - L / 2) := Nat.mul_le_mul_left _ (Nat.two_pow_pos _)
  rw [pow_half L, Nat.mul_sub, Nat.mul_one]
  omega

/-- what stands at a node's place is the node -/
theorem lay_pos' : ∀ (m L d j r : Nat), L ≤ m → 1 ≤ L → d < L → j < 2 ^ d → pos L d j < 2 ^ L - 1 ∧ (lay L r).getD (pos L d j) 0 = r * 2 ^ d + j := by
  intro m
  induction m with
  | zero => intro L d j r h1 h2; omega
  | succ m ih =>
    intro L d j r h1 h2 h3 h4
    by_cases h : L = 1
    · subst h
      obtain rfl : d = 0 := by omega
      obtain rfl : j = 0 := by simpa using h4
      rw [pos_one, lay_one]; simp
    · have hlen := lay_len (L := L / 2) r (by omega)
      have hs := size_half L
      by_cases hd : d < L / 2
      · obtain ⟨i1, i2⟩ := ih (L / 2) d j r (by omega) (by omega) hd h4
        rw [pos_up j (by omega) hd, lay_two (by omega)]
        refine ⟨by omega, ?_⟩
        rw [List.getD_eq_getElem?_getD, List.getElem?_append_left (by omega), ← List.getD_eq_getElem?_getD]
        exact i2
      · have hq : j / 2 ^ (d - L / 2) < 2 ^ (L / 2) := by
          rw [Nat.div_lt_iff_lt_mul (Nat.two_pow_pos _), ← Nat.pow_add, show L / 2 + (d - L / 2) = d by omega]; exact h4
        obtain ⟨i1, i2⟩ := ih (L - L / 2) (d - L / 2) (j % 2 ^ (d - L / 2)) (r * 2 ^ (L / 2) + j / 2 ^ (d - L / 2)) (by omega) (by omega) (by omega) (Nat.mod_lt _ (Nat.two_pow_pos _))
        rw [pos_low j (by omega) hd, lay_two (by omega)]
        constructor
        · have : (j / 2 ^ (d - L / 2) + 1) * (2 ^ (L - L / 2) - 1) ≤ 2 ^ (L / 2) * (2 ^ (L - L / 2) - 1) := Nat.mul_le_mul_right _ hq
          rw [Nat.add_mul, Nat.one_mul] at this
          omega
        · rw [List.getD_eq_getElem?_getD, List.getElem?_append_right (by omega), ← List.getD_eq_getElem?_getD, hlen]
          rw [show 2 ^ (L / 2) - 1 + j / 2 ^ (d - L / 2) * (2 ^ (L - L / 2) - 1) + pos (L - L / 2) (d - L / 2) (j % 2 ^ (d - L / 2)) - (2 ^ (L / 2) - 1) = j / 2 ^ (d - L / 2) * (2 ^ (L - L / 2) - 1) + pos (L - L / 2) (d - L / 2) (j % 2 ^ (d - L / 2)) by omega]
          rw [flatMap_get _ (2 ^ (L - L / 2) - 1) (fun i => lay_len _ (by omega)) _ _ _ hq i1, i2]
          have e1 : 2 ^ d = 2 ^ (L / 2) * 2 ^ (d - L / 2) := by rw [← Nat.pow_add]; congr 1; omega
          have e2 := Nat.div_add_mod j (2 ^ (d - L / 2))
          rw [e1, Nat.add_mul, Nat.mul_assoc, Nat.add_assoc, Nat.mul_comm (j / 2 ^ (d - L / 2)), e2]

/-- each place is one of a node -/
theorem pos_surj : ∀ (m L p : Nat), L ≤ m → 1 ≤ L → p < 2 ^ L - 1 → ∃ d j, d < L ∧ j < 2 ^ d ∧ pos L d j = p := by
  intro m
  induction m with
  | zero => intro L p h1 h2; omega
  | succ m ih =>
    intro L p h1 h2 h3
    by_cases h : L = 1
    · subst h
      exact ⟨0, 0, by omega, by simp, by rw [pos_one]; simp at h3; omega⟩
    · have hs := size_half L
      by_cases hp : p < 2 ^ (L / 2) - 1
      · obtain ⟨d, j, k1, k2, k3⟩ := ih (L / 2) p (by omega) (by omega) hp
        exact ⟨d, j, by omega, k2, by rw [pos_up j (by omega) k1]; exact k3⟩
      · have hc : 1 ≤ 2 ^ (L - L / 2) - 1 := by
          have : 2 ^ 1 ≤ 2 ^ (L - L / 2) := Nat.pow_le_pow_right (by omega) (by omega)
          omega
        obtain ⟨q, hq⟩ : ∃ q, q = p - (2 ^ (L / 2) - 1) := ⟨_, rfl⟩
        have hqlt : q < 2 ^ (L / 2) * (2 ^ (L - L / 2) - 1) := by omega
        obtain ⟨d, j, k1, k2, k3⟩ := ih (L - L / 2) (q % (2 ^ (L - L / 2) - 1)) (by omega) (by omega) (Nat.mod_lt _ (by omega))
        have hi : q / (2 ^ (L - L / 2) - 1) < 2 ^ (L / 2) := by rw [Nat.div_lt_iff_lt_mul (by omega)]; exact hqlt
        refine ⟨L / 2 + d, q / (2 ^ (L - L / 2) - 1) * 2 ^ d + j, by omega, ?_, ?_⟩
        · rw [Nat.pow_add]
          have : (q / (2 ^ (L - L / 2) - 1) + 1) * 2 ^ d ≤ 2 ^ (L / 2) * 2 ^ d := Nat.mul_le_mul_right _ hi
          rw [Nat.add_mul, Nat.one_mul] at this
          omega
        · rw [pos_low _ (by omega) (by omega), show L / 2 + d - L / 2 = d by omega]
          have e1 : (q / (2 ^ (L - L / 2) - 1) * 2 ^ d + j) / 2 ^ d = q / (2 ^ (L - L / 2) - 1) := by
            rw [Nat.add_comm, Nat.add_mul_div_right _ _ (Nat.two_pow_pos d), Nat.div_eq_of_lt k2, Nat.zero_add]
          have e2 : (q / (2 ^ (L - L / 2) - 1) * 2 ^ d + j) % 2 ^ d = j := by
            rw [Nat.add_comm, Nat.add_mul_mod_self_right, Nat.mod_eq_of_lt k2]
          rw [e1, e2, k3]
          have e3 := Nat.div_add_mod q (2 ^ (L - L / 2) - 1)
          rw [Nat.mul_comm] at e3
          omega

/-- a node's depth, and which of its depth it is -/
theorem node_dj {n : Nat} (h : 1 ≤ n) : 2 ^ n.log2 ≤ n ∧ n - 2 ^ n.log2 < 2 ^ n.log2 := by
  have h1 : 2 ^ n.log2 ≤ n := (Nat.le_log2 (by omega)).1 (Nat.le_refl _)
  have h2 : n < 2 ^ (n.log2 + 1) := (Nat.log2_lt (by omega)).1 (Nat.lt_succ_self _)
  rw [Nat.pow_succ] at h2
  exact ⟨h1, by omega⟩
theorem log2_dj {d j : Nat} (h : j < 2 ^ d) : (2 ^ d + j).log2 = d := by
  have h1 : 1 ≤ 2 ^ d := Nat.two_pow_pos d
  have h2 : (2 ^ d + j).log2 < d + 1 := (Nat.log2_lt (by omega)).2 (by rw [Nat.pow_succ]; omega)
  have h3 : d ≤ (2 ^ d + j).log2 := (Nat.le_log2 (by omega)).2 (by omega)
  omega
/-- the place of a node -/
def vpos (L n : Nat) : Nat := pos L n.log2 (n - 2 ^ n.log2)
theorem vpos_lay {L n : Nat} (h1 : 1 ≤ L) (hn : 1 ≤ n) (h : n < 2 ^ L) : vpos L n < 2 ^ L - 1 ∧ (lay L 1).getD (vpos L n) 0 = n := by
  obtain ⟨d1, d2⟩ := node_dj hn
  obtain ⟨a, b⟩ := lay_pos' L L n.log2 (n - 2 ^ n.log2) 1 (Nat.le_refl _) h1 (log2_lt_of hn h) d2
  exact ⟨a, by rw [vpos, b]; omega⟩
theorem lay_vpos {L p : Nat} (h1 : 1 ≤ L) (hp : p < 2 ^ L - 1) : vpos L ((lay L 1).getD p 0) = p := by
  obtain ⟨d, j, k1, k2, k3⟩ := pos_surj L L p (Nat.le_refl _) h1 hp
  obtain ⟨a, b⟩ := lay_pos' L L d j 1 (Nat.le_refl _) h1 k1 k2
  rw [k3, Nat.one_mul] at b
  rw [b, vpos, log2_dj k2, Nat.add_sub_cancel_left, k3]

theorem fillTo_get {N : Nat} {l : List Nat} (hin : ∀ k, k < N → 1 ≤ l.getD k 0 ∧ l.getD k 0 ≤ N) (hinj : ∀ k p, k < N → p < N → l.getD k 0 = l.getD p 0 → k = p) (p : Nat) (hp : p < N) :
    ∀ k, k ≤ N → p < k → (fillTo N l k).getD (l.getD p 0 - 1) 0 = (p : Int) := by
  intro k
  induction k with
  | zero => intro _ h; omega
  | succ k ih =>
    intro hk h
    obtain ⟨a1, a2⟩ := hin p hp
    obtain ⟨b1, b2⟩ := hin k (by omega)
    rw [fillTo, List.getD_eq_getElem?_getD, List.getElem?_set]
    by_cases e : k = p
    · subst e
      rw [if_pos rfl, if_pos (by rw [fillTo_length]; omega)]; rfl
    · have hne : l.getD k 0 - 1 ≠ l.getD p 0 - 1 := fun h2 => e (hinj k p (by omega) hp (by omega))
      rw [if_neg hne, ← List.getD_eq_getElem?_getD]
      exact ih (by omega) (by omega)
/-- the table holds each node's place -/
theorem plc_get {L n : Nat} (h1 : 1 ≤ L) (hn : 1 ≤ n) (h : n < 2 ^ L) : (plc L).getD (n - 1) 0 = (vpos L n : Nat) := by
  obtain ⟨a, b⟩ := vpos_lay h1 hn h
  have := fillTo_get (N := 2 ^ L - 1) (l := lay L 1) (fun k hk => lay_in h1 hk) (fun k p hk hp e => by rw [← lay_vpos h1 hk, ← lay_vpos h1 hp, e]) (vpos L n) a (2 ^ L - 1) (Nat.le_refl _) a
  rw [b] at this
  exact this
end Go.Proofs.Ytbmibaafkgleeaa

/- The layout of van Emde Boas as a list of nodes: plain facts, no program. -/
namespace Go.Proofs.Ytbmibaafkgleeaa
set_option linter.unusedVariables false
set_option linter.unusedSimpArgs false

def lay (L r : Nat) : List Nat :=
  if h : L ≤ 1 then [r] else lay (L / 2) r ++ (List.range (2 ^ (L / 2))).flatMap fun i => lay (L - L / 2) (r * 2 ^ (L / 2) + i)
termination_by L
decreasing_by all_goals omega

theorem lay_one (r : Nat) : lay 1 r = [r] := by rw [lay]; simp
theorem lay_two {L : Nat} (h : 2 ≤ L) (r : Nat) : lay L r = lay (L / 2) r ++ (List.range (2 ^ (L / 2))).flatMap fun i => lay (L - L / 2) (r * 2 ^ (L / 2) + i) := by
  rw [lay]; simp [show ¬ L ≤ 1 by omega]

theorem length_flatMap_const {α : Type} (f : Nat → List α) (c : Nat) (hf : ∀ i, (f i).length = c) : ∀ n, ((List.range n).flatMap f).length = n * c := by
  intro n
  induction n with
  | zero => simp
  | succ n ih => rw [List.range_succ, List.flatMap_append, List.length_append, ih]; simp [hf]; rw [Nat.add_mul]; simp

theorem lay_length : ∀ (m L r : Nat), L ≤ m → 1 ≤ L → (lay L r).length = 2 ^ L - 1 := by
  intro m
  induction m with
  | zero => intro L r h1 h2; omega
  | succ m ih =>
    intro L r h1 h2
    by_cases h : L = 1
    · subst h; simp [lay_one]
    · rw [lay_two (by omega), List.length_append, ih _ _ (by omega) (by omega), length_flatMap_const _ (2 ^ (L - L / 2) - 1) (fun i => ih _ _ (by omega) (by omega))]
      have e : 2 ^ L = 2 ^ (L / 2) * 2 ^ (L - L / 2) := by rw [← Nat.pow_add]; congr 1; omega
      have p1 := Nat.two_pow_pos (L / 2)
      have p2 := Nat.two_pow_pos (L - L / 2)
      rw [e, Nat.mul_sub]
      have : 2 ^ (L / 2) * 1 ≤ 2 ^ (L / 2) * 2 ^ (L - L / 2) := Nat.mul_le_mul_left _ p2
      omega
theorem lay_len {L : Nat} (r : Nat) (h : 1 ≤ L) : (lay L r).length = 2 ^ L - 1 := lay_length L L r (Nat.le_refl _) h

/-- what stands in the layout: the nodes of the tree -/
theorem lay_mem : ∀ (m L r : Nat), L ≤ m → 1 ≤ L → ∀ x ∈ lay L r, r ≤ x ∧ x < (r + 1) * 2 ^ (L - 1) := by
  intro m
  induction m with
  | zero => intro L r h1 h2; omega
  | succ m ih =>
    intro L r h1 h2 x hx
    by_cases h : L = 1
    · subst h; simp [lay_one] at hx; subst hx; simp
    · rw [lay_two (by omega), List.mem_append, List.mem_flatMap] at hx
      rcases hx with hx | ⟨i, hi, hx⟩
      · obtain ⟨a, b⟩ := ih _ _ (by omega) (by omega) x hx
        refine ⟨a, Nat.lt_of_lt_of_le b (Nat.mul_le_mul_left _ (Nat.pow_le_pow_right (by omega) (by omega)))⟩
      · rw [List.mem_range] at hi
        obtain ⟨a, b⟩ := ih _ _ (by omega) (by omega) x hx
        have p1 := Nat.two_pow_pos (L / 2)
        constructor
        · have := Nat.mul_le_mul_left r p1; omega
        · have e : 2 ^ (L - 1) = 2 ^ (L / 2) * 2 ^ (L - L / 2 - 1) := by rw [← Nat.pow_add]; congr 1; omega
          rw [e, ← Nat.mul_assoc]
          refine Nat.lt_of_lt_of_le b (Nat.mul_le_mul_right _ ?_)
          rw [Nat.add_mul]; omega

/-- the places of the nodes of a list, of which k are laid -/
def fillTo (n : Nat) (l : List Nat) : Nat → List Int
  | 0 => List.replicate n 0
  | k + 1 => (fillTo n l k).set (l.getD k 0 - 1) (k : Int)
theorem fillTo_length (n : Nat) (l : List Nat) : ∀ k, (fillTo n l k).length = n
  | 0 => by simp [fillTo]
  | k + 1 => by simp [fillTo, fillTo_length n l k]
/-- all places of a tree, by nodes -/
def plc (L : Nat) : List Int := fillTo (2 ^ L - 1) (lay L 1) (2 ^ L - 1)
theorem lay_in {L k : Nat} (h : 1 ≤ L) (hk : k < 2 ^ L - 1) : 1 ≤ (lay L 1).getD k 0 ∧ (lay L 1).getD k 0 ≤ 2 ^ L - 1 := by
  have hl := lay_len 1 h
  have hm : (lay L 1).getD k 0 ∈ lay L 1 := by
    rw [List.getD_eq_getElem?_getD, List.getElem?_eq_getElem (by omega), Option.getD_some]
    exact List.getElem_mem _
  obtain ⟨a, b⟩ := lay_mem L L 1 (Nat.le_refl _) h _ hm
  have e : (1 + 1) * 2 ^ (L - 1) = 2 ^ L := by rw [show L = L - 1 + 1 by omega, Nat.pow_succ]; simp [Nat.mul_comm]
  omega
end Go.Proofs.Ytbmibaafkgleeaa

/- Eytzinger's layout: the places in order, who stands behind whom; plain facts, no program. -/
namespace Go.Proofs.Ytcbeldemkfbliaa

/-- the places under one, in order -/
def ord (n at_ : Nat) : List Nat :=
  if h : at_ < n then ord n (2 * at_ + 1) ++ at_ :: ord n (2 * at_ + 2) else []
termination_by n - at_
decreasing_by all_goals omega
theorem ord_in {n a : Nat} (h : a < n) : ord n a = ord n (2 * a + 1) ++ a :: ord n (2 * a + 2) := by rw [ord]; simp [h]
theorem ord_out {n a : Nat} (h : n ≤ a) : ord n a = [] := by rw [ord]; simp [show ¬ a < n by omega]

/-- what comes behind all that is under a place -/
def aft (n a : Nat) : List Nat :=
  if h : a = 0 then [] else if a % 2 = 1 then (a - 1) / 2 :: (ord n (2 * ((a - 1) / 2) + 2) ++ aft n ((a - 1) / 2)) else aft n ((a - 1) / 2)
termination_by a
decreasing_by all_goals omega
theorem aft_zero (n : Nat) : aft n 0 = [] := by rw [aft]; simp
theorem aft_left (n p : Nat) : aft n (2 * p + 1) = p :: (ord n (2 * p + 2) ++ aft n p) := by
  rw [aft]; simp [show (2 * p + 1) % 2 = 1 by omega, show (2 * p + 1 - 1) / 2 = p by omega]
theorem aft_right (n p : Nat) : aft n (2 * p + 2) = aft n p := by
  rw [aft]; simp [show (2 * p + 1) / 2 = p by omega]

/-- what comes behind a place -/
def rest (n a : Nat) : List Nat := ord n (2 * a + 2) ++ aft n a

def lm (n a : Nat) : Nat := if h : 2 * a + 1 < n then lm n (2 * a + 1) else a
termination_by n - a
decreasing_by omega
theorem lm_in {n a : Nat} (h : 2 * a + 1 < n) : lm n a = lm n (2 * a + 1) := by rw [lm]; simp [h]
theorem lm_out {n a : Nat} (h : ¬ 2 * a + 1 < n) : lm n a = a := by rw [lm]; simp [h]

def ups (a : Nat) : Option Nat := if h : a = 0 then none else if a % 2 = 1 then some ((a - 1) / 2) else ups ((a - 1) / 2)
termination_by a
decreasing_by omega
theorem ups_zero : ups 0 = none := by rw [ups]; simp
theorem ups_odd {a : Nat} (h : a % 2 = 1) : ups a = some ((a - 1) / 2) := by rw [ups]; simp [h, show a ≠ 0 by omega]
theorem ups_even {a : Nat} (h : a % 2 = 0) (h0 : a ≠ 0) : ups a = ups ((a - 1) / 2) := by rw [ups]; simp [h, h0]

def nxt (n a : Nat) : Option Nat := if 2 * a + 2 < n then some (lm n (2 * a + 2)) else ups a

theorem lm_lt : ∀ (k n a : Nat), n - a ≤ k → a < n → lm n a < n := by
  intro k
  induction k with
  | zero => intro n a h1 h2; omega
  | succ k ih =>
    intro n a h1 h2
    by_cases h : 2 * a + 1 < n
    · rw [lm_in h]; exact ih _ _ (by omega) h
    · rw [lm_out h]; exact h2
theorem head_ord : ∀ (k n a : Nat), n - a ≤ k → a < n → ord n a ++ aft n a = lm n a :: rest n (lm n a) := by
  intro k
  induction k with
  | zero => intro n a h1 h2; omega
  | succ k ih =>
    intro n a h1 h2
    by_cases h : 2 * a + 1 < n
    · rw [lm_in h, ← ih _ _ (by omega) h, ord_in h2, aft_left]; simp
    · rw [lm_out h, ord_in h2, ord_out (n := n) (a := 2 * a + 1) (by omega)]; simp [rest]
theorem aft_ups : ∀ (k n a : Nat), a ≤ k → aft n a = match ups a with | none => [] | some p => p :: rest n p := by
  intro k
  induction k with
  | zero => intro n a h; obtain rfl : a = 0 := by omega
            rw [aft_zero, ups_zero]
  | succ k ih =>
    intro n a h
    by_cases h0 : a = 0
    · subst h0; rw [aft_zero, ups_zero]
    · by_cases h1 : a % 2 = 1
      · obtain ⟨p, rfl⟩ : ∃ p, a = 2 * p + 1 := ⟨(a - 1) / 2, by omega⟩
        rw [aft_left, ups_odd h1, show (2 * p + 1 - 1) / 2 = p by omega]; rfl
      · obtain ⟨p, rfl⟩ : ∃ p, a = 2 * p + 2 := ⟨(a - 2) / 2, by omega⟩
        rw [aft_right, ups_even (by omega) h0, show (2 * p + 2 - 1) / 2 = p by omega]
        exact ih n p (by omega)
theorem rest_nxt (n a : Nat) : rest n a = match nxt n a with | none => [] | some y => y :: rest n y := by
  unfold nxt
  by_cases h : 2 * a + 2 < n
  · rw [if_pos h]
    simp only
    rw [← head_ord _ _ _ (Nat.le_refl _) h, aft_right]; rfl
  · rw [if_neg h, rest, ord_out (by omega)]
    exact aft_ups _ _ _ (Nat.le_refl _)
theorem ord_head (n : Nat) (h : 0 < n) : ord n 0 = lm n 0 :: rest n (lm n 0) := by
  have := head_ord _ n 0 (Nat.le_refl _) h
  rw [aft_zero, List.append_nil] at this
  exact this

/-- is a place under another one (or that one)? -/
def anc (x r : Nat) : Bool := if h : x = r then true else if x ≤ r then false else anc ((x - 1) / 2) r
termination_by x
decreasing_by omega
theorem anc_self (x : Nat) : anc x x = true := by rw [anc]; simp
theorem anc_lt {x r : Nat} (h : x < r) : anc x r = false := by rw [anc]; simp [show ¬ x = r by omega, show x ≤ r by omega]
theorem anc_up {x r : Nat} (h : r < x) : anc x r = anc ((x - 1) / 2) r := by rw [anc]; simp [show ¬ x = r by omega, show ¬ x ≤ r by omega]
theorem anc_kids : ∀ (k x r : Nat), x ≤ k → r < x → (anc x r = true ∧ ((anc x (2 * r + 1) = true ∧ anc x (2 * r + 2) = false) ∨ (anc x (2 * r + 1) = false ∧ anc x (2 * r + 2) = true))) ∨ (anc x r = false ∧ anc x (2 * r + 1) = false ∧ anc x (2 * r + 2) = false) := by
  intro k
  induction k with
  | zero => intro x r h1 h2; omega
  | succ k ih =>
    intro x r h1 h2
    rw [anc_up h2]
    by_cases hp : (x - 1) / 2 = r
    · rw [hp, anc_self]
      left
      refine ⟨rfl, ?_⟩
      rcases (by omega : x = 2 * r + 1 ∨ x = 2 * r + 2) with rfl | rfl
      · exact .inl ⟨anc_self _, anc_lt (by omega)⟩
      · refine .inr ⟨?_, anc_self _⟩
        rw [anc_up (by omega), show (2 * r + 2 - 1) / 2 = r by omega]
        exact anc_lt (by omega)
    · by_cases hlt : r < (x - 1) / 2
      · have := ih ((x - 1) / 2) r (by omega) hlt
        rw [anc_up (x := x) (r := 2 * r + 1) (by omega), anc_up (x := x) (r := 2 * r + 2) (by omega)]
        exact this
      · right
        refine ⟨anc_lt (by omega), anc_lt (by omega), anc_lt (by omega)⟩
theorem anc_root : ∀ (k x : Nat), x ≤ k → anc x 0 = true := by
  intro k
  induction k with
  | zero => intro x h; obtain rfl : x = 0 := by omega
            exact anc_self 0
  | succ k ih =>
    intro x h
    by_cases h0 : x = 0
    · subst h0; exact anc_self 0
    · rw [anc_up (by omega)]; exact ih _ (by omega)
theorem count_ord : ∀ (k n r x : Nat), n - r ≤ k → (ord n r).count x = if x < n ∧ anc x r = true then 1 else 0 := by
  intro k
  induction k with
  | zero =>
    intro n r x h
    rw [ord_out (by omega)]
    by_cases hx : x < n
    · rw [anc_lt (show x < r by omega)]; simp
    · simp [hx]
  | succ k ih =>
    intro n r x h
    by_cases hr : r < n
    · rw [ord_in hr, List.count_append, List.count_cons, ih _ _ _ (by omega), ih _ _ _ (by omega)]
      rcases Nat.lt_trichotomy x r with hlt | heq | hgt
      · rw [anc_lt hlt, anc_lt (show x < 2 * r + 1 by omega), anc_lt (show x < 2 * r + 2 by omega)]
        simp [show ¬ r = x by omega]
      · subst heq
        rw [anc_self, anc_lt (show x < 2 * x + 1 by omega), anc_lt (show x < 2 * x + 2 by omega)]
        simp [hr]
      · rcases anc_kids x x r (Nat.le_refl _) hgt with ⟨e1, ⟨e2, e3⟩ | ⟨e2, e3⟩⟩ | ⟨e1, e2, e3⟩ <;> simp [e1, e2, e3, show ¬ r = x by omega]
    · rw [ord_out (by omega)]
      by_cases hx : x < n
      · rw [anc_lt (show x < r by omega)]; simp
      · simp [hx]
theorem ord_perm (n : Nat) : (ord n 0).Perm (List.range n) := by
  rw [List.perm_iff_count]
  intro x
  rw [count_ord _ _ _ _ (Nat.le_refl _), anc_root x x (Nat.le_refl _)]
  by_cases h : x < n
  · rw [if_pos ⟨h, rfl⟩, List.Nodup.count List.nodup_range]
    simp [h]
  · rw [if_neg (by simp [h]), List.count_eq_zero.2]
    simpa using h
theorem ord_length (n : Nat) : (ord n 0).length = n := by rw [(ord_perm n).length_eq, List.length_range]
theorem ord_mem {n r x : Nat} (h : x ∈ ord n r) : x < n ∧ anc x r = true := by
  have := count_ord _ n r x (Nat.le_refl _)
  have hp := List.count_pos_iff.2 h
  rw [this] at hp
  by_cases hc : x < n ∧ anc x r = true
  · exact hc
  · rw [if_neg hc] at hp; omega
theorem ord_nodup (n : Nat) : (ord n 0).Nodup := (ord_perm n).nodup_iff.2 List.nodup_range
theorem mem_ord {n x : Nat} (h : x < n) : x ∈ ord n 0 := (ord_perm n).mem_iff.2 (List.mem_range.2 h)

/-- all that is under a place stands together -/
theorem ord_part : ∀ (k n a : Nat), a ≤ k → a < n → ∃ pre, ord n 0 = pre ++ (ord n a ++ aft n a) := by
  intro k
  induction k with
  | zero => intro n a h h2; obtain rfl : a = 0 := by omega
            exact ⟨[], by rw [aft_zero]; simp⟩
  | succ k ih =>
    intro n a h h2
    by_cases h0 : a = 0
    · subst h0; exact ⟨[], by rw [aft_zero]; simp⟩
    · by_cases h1 : a % 2 = 1
      · obtain ⟨p, rfl⟩ : ∃ p, a = 2 * p + 1 := ⟨(a - 1) / 2, by omega⟩
        obtain ⟨pre, e⟩ := ih n p (by omega) (by omega)
        exact ⟨pre, by rw [e, ord_in (show p < n by omega), aft_left]; simp⟩
      · obtain ⟨p, rfl⟩ : ∃ p, a = 2 * p + 2 := ⟨(a - 2) / 2, by omega⟩
        obtain ⟨pre, e⟩ := ih n p (by omega) (by omega)
        exact ⟨pre ++ ord n (2 * p + 1) ++ [p], by rw [e, ord_in (show p < n by omega), aft_right]; simp⟩
theorem ord_len_le (n a : Nat) : (ord n a).length ≤ n := by
  by_cases h : a < n
  · obtain ⟨pre, e⟩ := ord_part a n a (Nat.le_refl _) h
    have := congrArg List.length e
    rw [ord_length] at this
    simp at this
    omega
  · rw [ord_out (by omega)]; simp

/-- the ranks, place by place, of which k are laid -/
def rankTo (n : Nat) (l : List Nat) : Nat → List Int
  | 0 => List.replicate n 0
  | k + 1 => (rankTo n l k).set (l.getD k 0) (k : Int)
theorem rankTo_length (n : Nat) (l : List Nat) : ∀ k, (rankTo n l k).length = n
  | 0 => by simp [rankTo]
  | k + 1 => by simp [rankTo, rankTo_length n l k]
def rnk (n : Nat) : List Int := rankTo n (ord n 0) n
theorem rnk_length (n : Nat) : (rnk n).length = n := rankTo_length _ _ _
theorem ord_lt {n k : Nat} (hk : k < n) : (ord n 0).getD k 0 < n := by
  have hl := ord_length n
  have hm : (ord n 0).getD k 0 ∈ ord n 0 := by
    rw [List.getD_eq_getElem?_getD, List.getElem?_eq_getElem (by omega), Option.getD_some]
    exact List.getElem_mem _
  exact (ord_mem hm).1
end Go.Proofs.Ytcbeldemkfbliaa

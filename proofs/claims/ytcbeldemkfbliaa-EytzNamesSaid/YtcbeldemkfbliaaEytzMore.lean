/- Eytzinger's layout: ranks, and who stands ahead; plain facts, no program. -/
import Derived.Test.YtcbeldemkfbliaaEytzPlain
namespace Go.Proofs.Ytcbeldemkfbliaa

/-- what comes ahead of all that is under a place -/
def bef (n a : Nat) : List Nat :=
  if h : a = 0 then [] else if a % 2 = 1 then bef n ((a - 1) / 2) else bef n ((a - 1) / 2) ++ (ord n (2 * ((a - 1) / 2) + 1) ++ [(a - 1) / 2])
termination_by a
decreasing_by all_goals omega
theorem bef_zero (n : Nat) : bef n 0 = [] := by rw [bef]; simp
theorem bef_left (n p : Nat) : bef n (2 * p + 1) = bef n p := by
  rw [bef]; simp [show (2 * p + 1) % 2 = 1 by omega, show (2 * p + 1 - 1) / 2 = p by omega]
theorem bef_right (n p : Nat) : bef n (2 * p + 2) = bef n p ++ (ord n (2 * p + 1) ++ [p]) := by
  rw [bef]; simp [show (2 * p + 1) / 2 = p by omega]
/-- what comes ahead of a place -/
def ahd (n a : Nat) : List Nat := bef n a ++ ord n (2 * a + 1)

theorem ord_split : ∀ (k n a : Nat), a ≤ k → a < n → ord n 0 = bef n a ++ (ord n a ++ aft n a) := by
  intro k
  induction k with
  | zero => intro n a h h2; obtain rfl : a = 0 := by omega
            rw [aft_zero, bef_zero]; simp
  | succ k ih =>
    intro n a h h2
    by_cases h0 : a = 0
    · subst h0; rw [aft_zero, bef_zero]; simp
    · by_cases h1 : a % 2 = 1
      · obtain ⟨p, rfl⟩ : ∃ p, a = 2 * p + 1 := ⟨(a - 1) / 2, by omega⟩
        rw [ih n p (by omega) (by omega), ord_in (show p < n by omega), aft_left, bef_left]; simp
      · obtain ⟨p, rfl⟩ : ∃ p, a = 2 * p + 2 := ⟨(a - 2) / 2, by omega⟩
        rw [ih n p (by omega) (by omega), ord_in (show p < n by omega), aft_right, bef_right]; simp
theorem ord_at {n a : Nat} (h : a < n) : ord n 0 = ahd n a ++ a :: rest n a := by
  rw [ord_split a n a (Nat.le_refl _) h, ord_in h, ahd, rest]; simp

def rm (n a : Nat) : Nat := if h : 2 * a + 2 < n then rm n (2 * a + 2) else a
termination_by n - a
decreasing_by omega
theorem rm_in {n a : Nat} (h : 2 * a + 2 < n) : rm n a = rm n (2 * a + 2) := by rw [rm]; simp [h]
theorem rm_out {n a : Nat} (h : ¬ 2 * a + 2 < n) : rm n a = a := by rw [rm]; simp [h]
theorem rm_lt : ∀ (k n a : Nat), n - a ≤ k → a < n → rm n a < n := by
  intro k
  induction k with
  | zero => intro n a h1 h2; omega
  | succ k ih =>
    intro n a h1 h2
    by_cases h : 2 * a + 2 < n
    · rw [rm_in h]; exact ih _ _ (by omega) h
    · rw [rm_out h]; exact h2
def upsE (a : Nat) : Option Nat := if h : a = 0 then none else if a % 2 = 0 then some ((a - 1) / 2) else upsE ((a - 1) / 2)
termination_by a
decreasing_by omega
theorem upsE_zero : upsE 0 = none := by rw [upsE]; simp
theorem upsE_even {a : Nat} (h : a % 2 = 0) (h0 : a ≠ 0) : upsE a = some ((a - 1) / 2) := by rw [upsE]; simp [h, h0]
theorem upsE_odd {a : Nat} (h : a % 2 = 1) : upsE a = upsE ((a - 1) / 2) := by rw [upsE]; simp [h, show a ≠ 0 by omega]
def prv (n a : Nat) : Option Nat := if 2 * a + 1 < n then some (rm n (2 * a + 1)) else upsE a

theorem last_ord : ∀ (k n a : Nat), n - a ≤ k → a < n → bef n a ++ ord n a = ahd n (rm n a) ++ [rm n a] := by
  intro k
  induction k with
  | zero => intro n a h1 h2; omega
  | succ k ih =>
    intro n a h1 h2
    by_cases h : 2 * a + 2 < n
    · rw [rm_in h, ← ih _ _ (by omega) h, ord_in h2, bef_right]; simp
    · rw [rm_out h, ord_in h2, ord_out (n := n) (a := 2 * a + 2) (by omega)]; simp [ahd]
theorem bef_upsE : ∀ (k n a : Nat), a ≤ k → bef n a = match upsE a with | none => [] | some p => ahd n p ++ [p] := by
  intro k
  induction k with
  | zero => intro n a h; obtain rfl : a = 0 := by omega
            rw [bef_zero, upsE_zero]
  | succ k ih =>
    intro n a h
    by_cases h0 : a = 0
    · subst h0; rw [bef_zero, upsE_zero]
    · by_cases h1 : a % 2 = 1
      · obtain ⟨p, rfl⟩ : ∃ p, a = 2 * p + 1 := ⟨(a - 1) / 2, by omega⟩
        rw [bef_left, upsE_odd h1, show (2 * p + 1 - 1) / 2 = p by omega]
        exact ih n p (by omega)
      · obtain ⟨p, rfl⟩ : ∃ p, a = 2 * p + 2 := ⟨(a - 2) / 2, by omega⟩
        rw [bef_right, upsE_even (by omega) h0, show (2 * p + 2 - 1) / 2 = p by omega]
        simp [ahd]
theorem ahd_prv (n a : Nat) : ahd n a = match prv n a with | none => [] | some y => ahd n y ++ [y] := by
  unfold prv
  by_cases h : 2 * a + 1 < n
  · rw [if_pos h]
    simp only
    rw [← last_ord _ _ _ (Nat.le_refl _) h, bef_left]; rfl
  · rw [if_neg h, ahd, ord_out (by omega), List.append_nil]
    exact bef_upsE _ _ _ (Nat.le_refl _)

theorem nxt_lt {n a y : Nat} (ha : a < n) (h : nxt n a = some y) : y < n := by
  have h1 := rest_nxt n a
  rw [h] at h1
  have h2 := ord_at ha
  rw [h1] at h2
  have : y ∈ ord n 0 := by rw [h2]; simp
  exact (ord_mem this).1
theorem prv_lt {n a y : Nat} (ha : a < n) (h : prv n a = some y) : y < n := by
  have h1 := ahd_prv n a
  rw [h] at h1
  have h2 := ord_at ha
  rw [h1] at h2
  have : y ∈ ord n 0 := by rw [h2]; simp
  exact (ord_mem this).1

/-- a place's rank -/
def rk (n a : Nat) : Nat := (ahd n a).length
theorem rk_lt {n a : Nat} (h : a < n) : rk n a < n := by
  have := congrArg List.length (ord_at h)
  rw [ord_length] at this
  simp at this
  unfold rk; omega
theorem ord_rk {n a : Nat} (h : a < n) : (ord n 0).getD (rk n a) 0 = a := by
  rw [ord_at h, rk, List.getD_eq_getElem?_getD]; simp
theorem rk_ord {n k : Nat} (h : k < n) : rk n ((ord n 0).getD k 0) = k := by
  have hl := ord_length n
  have ha := ord_lt h
  have h1 := ord_rk ha
  have h2 := rk_lt ha
  have e1 : (ord n 0).getD (rk n ((ord n 0).getD k 0)) 0 = (ord n 0)[rk n ((ord n 0).getD k 0)] := by
    rw [List.getD_eq_getElem?_getD, List.getElem?_eq_getElem (by omega), Option.getD_some]
  have e2 : (ord n 0).getD k 0 = (ord n 0)[k] := by
    rw [List.getD_eq_getElem?_getD, List.getElem?_eq_getElem (by omega), Option.getD_some]
  have e3 := (e1.symm.trans h1).trans e2
  have hp := List.pairwise_iff_getElem.1 (ord_nodup n)
  rcases Nat.lt_trichotomy (rk n ((ord n 0).getD k 0)) k with hlt | heq | hgt
  · exact absurd e3 (hp _ _ (by omega) (by omega) hlt)
  · exact heq
  · exact absurd e3.symm (hp _ _ (by omega) (by omega) hgt)
theorem rk_rest {n a : Nat} (h : a < n) : rk n a + (rest n a).length + 1 = n := by
  have := congrArg List.length (ord_at h)
  rw [ord_length] at this
  simp at this
  unfold rk; omega
theorem rk_nxt {n a y : Nat} (ha : a < n) (h : nxt n a = some y) : rk n y = rk n a + 1 := by
  have h1 := rest_nxt n a
  rw [h] at h1
  simp only at h1
  have h2 := rk_rest ha
  have h3 := rk_rest (nxt_lt ha h)
  rw [h1] at h2
  simp at h2
  omega
theorem rk_nxt_none {n a : Nat} (ha : a < n) (h : nxt n a = none) : rk n a + 1 = n := by
  have h1 := rest_nxt n a
  rw [h] at h1
  simp only at h1
  have h2 := rk_rest ha
  rw [h1] at h2
  simpa using h2
theorem rk_prv {n a y : Nat} (h : prv n a = some y) : rk n a = rk n y + 1 := by
  have h1 := ahd_prv n a
  rw [h] at h1
  simp only at h1
  unfold rk
  rw [h1]; simp
theorem rk_prv_none {n a : Nat} (h : prv n a = none) : rk n a = 0 := by
  have h1 := ahd_prv n a
  rw [h] at h1
  unfold rk
  rw [h1]; rfl
theorem rk_of_mem {n a x i : Nat} (ha : a < n) (hi : i < n) (h : (ord n 0).getD i 0 = x) : rk n x = i := by rw [← h]; exact rk_ord hi
theorem rk_ahd {n a x : Nat} (ha : a < n) (h : x ∈ ahd n a) : rk n x < rk n a := by
  obtain ⟨i, hi, e⟩ := List.getElem_of_mem h
  have hr := rk_lt ha
  have : (ord n 0).getD i 0 = x := by
    rw [ord_at ha, List.getD_eq_getElem?_getD, List.getElem?_append_left hi, List.getElem?_eq_getElem hi, Option.getD_some, e]
  have h2 : i < rk n a := hi
  rw [rk_of_mem ha (by omega) this]
  exact h2
theorem rk_behind {n a x : Nat} (ha : a < n) (h : x ∈ rest n a) : rk n a < rk n x := by
  obtain ⟨i, hi, e⟩ := List.getElem_of_mem h
  have hr := rk_rest ha
  have : (ord n 0).getD (rk n a + 1 + i) 0 = x := by
    rw [ord_at ha, List.getD_eq_getElem?_getD, List.getElem?_append_right (by unfold rk; omega)]
    rw [show rk n a + 1 + i - (ahd n a).length = i + 1 by unfold rk; omega, List.getElem?_cons_succ, List.getElem?_eq_getElem hi, Option.getD_some, e]
  rw [rk_of_mem ha (by omega) this]
  omega
theorem mem_under {n x r : Nat} (hx : x < n) (h : anc x r = true) : x ∈ ord n r := by
  rw [← List.count_pos_iff, count_ord _ _ _ _ (Nat.le_refl _), if_pos ⟨hx, h⟩]; omega
theorem rk_left {n x u : Nat} (hx : x < n) (h : anc x (2 * u + 1) = true) (hu : u < n) : rk n x < rk n u :=
  rk_ahd hu (by unfold ahd; exact List.mem_append_right _ (mem_under hx h))
theorem rk_right {n x u : Nat} (hx : x < n) (h : anc x (2 * u + 2) = true) (hu : u < n) : rk n u < rk n x :=
  rk_behind hu (by unfold rest; exact List.mem_append_left _ (mem_under hx h))

/-- the table of ranks holds them -/
theorem rankTo_get : ∀ (n k i : Nat), i < k → k ≤ n → (rankTo n (ord n 0) k).getD ((ord n 0).getD i 0) 0 = (i : Int) := by
  intro n k
  induction k with
  | zero => intro i h; omega
  | succ k ih =>
    intro i h hk
    rw [rankTo, List.getD_eq_getElem?_getD, List.getElem?_set]
    by_cases hik : i = k
    · subst hik
      rw [if_pos rfl, rankTo_length, if_pos (ord_lt hk)]; rfl
    · have hne : (ord n 0).getD k 0 ≠ (ord n 0).getD i 0 := by
        intro e
        have h1 := rk_ord (n := n) (k := k) (by omega)
        have h2 := rk_ord (n := n) (k := i) (by omega)
        rw [e, h2] at h1
        exact hik h1
      rw [if_neg hne, ← List.getD_eq_getElem?_getD]
      exact ih i (by omega) (by omega)
theorem rnk_get {n a : Nat} (h : a < n) : (rnk n).getD a 0 = (rk n a : Int) := by
  have := rankTo_get n n (rk n a) (rk_lt h) (Nat.le_refl _)
  rw [ord_rk h] at this
  exact this

/-! what the functions answer -/
def eErr (n at_ : Int) : Int := if n < 0 then 2 else if 65536 < n then 4 else if at_ < 0 ∨ n ≤ at_ then 2 else 0
def eyPlace (n k : Int) : Int := if eErr n k = 0 then ((ord n.toNat 0).getD k.toNat 0 : Nat) else 0
def eyRank (n a : Int) : Int := if eErr n a = 0 then (rk n.toNat a.toNat : Nat) else 0
def opt2 : Option Nat → Int × Int
  | none => (0, 6)
  | some p => (p, 0)
def eyNext (n a : Int) : Int × Int := if eErr n a = 0 then opt2 (nxt n.toNat a.toNat) else (0, eErr n a)
def eyLast (n a : Int) : Int × Int := if eErr n a = 0 then opt2 (prv n.toNat a.toNat) else (0, eErr n a)
end Go.Proofs.Ytcbeldemkfbliaa

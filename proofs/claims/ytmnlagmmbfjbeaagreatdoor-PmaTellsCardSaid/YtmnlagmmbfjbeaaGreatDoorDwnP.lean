/- Merged: DownPlain, DownMay, DownLaw. -/
import Derived.Test.YtmnlagmmbfjbeaaGreatDoorFlI
import Derived.Test.YtmnlagmmbfjbeaaGreatDoorVbA
namespace Go.Proofs.YtmnlagmmbfjbeaaGreatDoor
set_option linter.unusedVariables false
set_option linter.unusedSimpArgs false
section
open Go.RowKit

section
variable {f g : Nat → Int}
/-- the leaves under a node of a height, from the left to the right: the greatest key, the count -/
def lvs (f g : Nat → Int) : Nat → Nat → List (Int × Int)
  | 0, n => [(f n, g n)]
  | d + 1, n => lvs f g d (2 * n) ++ lvs f g d (2 * n + 1)
theorem lvs_length : ∀ d n, (lvs f g d n).length = 2 ^ d := by
  intro d
  induction d with
  | zero => intro n; rfl
  | succ d ih => intro n; rw [lvs, List.length_append, ih, ih, Nat.pow_succ]; omega
theorem lvs_get : ∀ d n i, i < 2 ^ d → (lvs f g d n)[i]? = some (f (n * 2 ^ d + i), g (n * 2 ^ d + i)) := by
  intro d
  induction d with
  | zero =>
    intro n i hi
    have : i = 0 := by simp at hi; exact hi
    subst this
    simp [lvs]
  | succ d ih =>
    intro n i hi
    rw [Nat.pow_succ] at hi
    rw [lvs]
    by_cases h : i < 2 ^ d
    · rw [List.getElem?_append_left (by rw [lvs_length]; exact h), ih _ _ h]
      rw [show n * 2 ^ (d + 1) + i = 2 * n * 2 ^ d + i by rw [Nat.pow_succ, Nat.mul_comm 2 n, Nat.mul_assoc, Nat.mul_comm 2]]
    · rw [List.getElem?_append_right (by rw [lvs_length]; omega), lvs_length, ih _ _ (by omega)]
      rw [show n * 2 ^ (d + 1) + i = (2 * n + 1) * 2 ^ d + (i - 2 ^ d) by rw [Nat.pow_succ, Nat.add_mul, Nat.mul_comm 2 n, Nat.mul_assoc, Nat.mul_comm 2]; omega]

/-- a tree of which each node says what the two below it say -/
def Good (f g : Nat → Int) : Nat → Nat → Prop
  | 0, n => ownB (f n) (g n) = true
  | d + 1, n => ownB (f n) (g n) = true ∧ joinR (f n) (g n) (f (2 * n)) (g (2 * n)) (f (2 * n + 1)) (g (2 * n + 1)) = true ∧ Good f g d (2 * n) ∧ Good f g d (2 * n + 1)
theorem Good.own : ∀ {d n}, Good f g d n → ownB (f n) (g n) = true
  | 0, _, h => h
  | _ + 1, _, h => h.1

/-- the sum of the counts -/
def cntL (l : List (Int × Int)) : Int := (l.map (·.2)).sum
theorem cntL_append (a b : List (Int × Int)) : cntL (a ++ b) = cntL a + cntL b := by simp [cntL]
theorem cntL_cons (p : Int × Int) (b : List (Int × Int)) : cntL (p :: b) = p.2 + cntL b := by simp [cntL]

theorem own_facts {m c : Int} (h : ownB m c = true) : 0 ≤ c ∧ c ≤ 65536 ∧ (c = 0 → m = 0) := by
  simp only [ownB, Bool.and_eq_true, Bool.or_eq_true, decide_eq_true_eq] at h
  omega
theorem join_facts {m c am ac bm bc : Int} (h : joinR m c am ac bm bc = true) : c = ac + bc ∧ (0 < bc → m = bm) ∧ (¬ 0 < bc → m = am) ∧ (0 < ac → 0 < bc → am < bm) := by
  simp only [joinR, Bool.and_eq_true, Bool.or_eq_true, decide_eq_true_eq] at h
  obtain ⟨⟨⟨⟨⟨h1, h2⟩, h3⟩, h4⟩, h5, h6⟩, h7⟩ := h
  unfold abM at h5
  refine ⟨by omega, fun hb => by rw [if_pos hb] at h5; exact h5, fun hb => by rw [if_neg hb] at h5; exact h5, fun ha hb => by rcases h7 with (h7 | h7) | h7 <;> omega⟩
theorem Good.cnt : ∀ {d n}, Good f g d n → cntL (lvs f g d n) = g n := by
  intro d
  induction d with
  | zero => intro n _; simp [lvs, cntL]
  | succ d ih =>
    intro n h
    obtain ⟨h1, h2, h3, h4⟩ := h
    rw [lvs, cntL_append, ih h3, ih h4, (join_facts h2).1]
theorem Good.nonneg : ∀ {d n}, Good f g d n → ∀ p ∈ lvs f g d n, 0 ≤ p.2 := by
  intro d
  induction d with
  | zero =>
    intro n h p hp
    simp [lvs] at hp
    subst hp
    exact (own_facts h).1
  | succ d ih =>
    intro n h p hp
    rw [lvs, List.mem_append] at hp
    exact hp.elim (ih h.2.2.1 p) (ih h.2.2.2 p)
/-- a leaf that is not empty: its key is no more than its node's; some leaf has just that -/
theorem Good.max_le : ∀ {d n}, Good f g d n → ∀ p ∈ lvs f g d n, 0 < p.2 → 0 < g n ∧ p.1 ≤ f n := by
  intro d
  induction d with
  | zero =>
    intro n h p hp h0
    simp [lvs] at hp
    subst hp
    exact ⟨h0, Int.le_refl _⟩
  | succ d ih =>
    intro n h p hp h0
    obtain ⟨h1, h2, h3, h4⟩ := h
    obtain ⟨j1, j2, j3, j4⟩ := join_facts h2
    have o3 := own_facts h3.own
    have o4 := own_facts h4.own
    rw [lvs, List.mem_append] at hp
    rcases hp with hp | hp
    · obtain ⟨k1, k2⟩ := ih h3 p hp h0
      refine ⟨by omega, ?_⟩
      by_cases hb : 0 < g (2 * n + 1)
      · have := j2 hb; have := j4 k1 hb; omega
      · have := j3 hb; omega
    · obtain ⟨k1, k2⟩ := ih h4 p hp h0
      exact ⟨by omega, by have := j2 k1; omega⟩
theorem Good.max_mem : ∀ {d n}, Good f g d n → 0 < g n → ∃ p ∈ lvs f g d n, 0 < p.2 ∧ p.1 = f n := by
  intro d
  induction d with
  | zero => intro n h h0; exact ⟨(f n, g n), by simp [lvs], h0, rfl⟩
  | succ d ih =>
    intro n h h0
    obtain ⟨h1, h2, h3, h4⟩ := h
    obtain ⟨j1, j2, j3, j4⟩ := join_facts h2
    have o3 := own_facts h3.own
    have o4 := own_facts h4.own
    by_cases hb : 0 < g (2 * n + 1)
    · obtain ⟨p, hp, q1, q2⟩ := ih h4 hb
      exact ⟨p, by rw [lvs, List.mem_append]; exact .inr hp, q1, by rw [q2, j2 hb]⟩
    · obtain ⟨p, hp, q1, q2⟩ := ih h3 (by omega)
      exact ⟨p, by rw [lvs, List.mem_append]; exact .inl hp, q1, by rw [q2, j3 hb]⟩

/-- does a leaf, or a node, serve a key? -/
def srv (key m c : Int) : Prop := 0 < c ∧ key ≤ m
instance (key m c : Int) : Decidable (srv key m c) := by unfold srv; infer_instance
theorem Good.srv_iff {d n : Nat} (h : Good f g d n) (key : Int) : srv key (f n) (g n) ↔ ∃ p ∈ lvs f g d n, srv key p.1 p.2 := by
  constructor
  · rintro ⟨h1, h2⟩
    obtain ⟨p, hp, q1, q2⟩ := h.max_mem h1
    exact ⟨p, hp, q1, by rw [q2]; exact h2⟩
  · rintro ⟨p, hp, q1, q2⟩
    obtain ⟨k1, k2⟩ := h.max_le p hp q1
    exact ⟨k1, by omega⟩
/-- Home, leaf by leaf -/
def homeL (key : Int) : List (Int × Int) → Int → Int → Int × Int × Int
  | [], _, _ => (0, 0, 6)
  | p :: r, i, s => if srv key p.1 p.2 then (i, s, 0) else homeL key r (i + 1) (s + p.2)
theorem homeL_none {key : Int} : ∀ (a b : List (Int × Int)) (i s : Int), (∀ p ∈ a, ¬ srv key p.1 p.2) → homeL key (a ++ b) i s = homeL key b (i + a.length) (s + cntL a) := by
  intro a
  induction a with
  | nil => intro b i s _; simp [cntL]
  | cons p r ih =>
    intro b i s h
    rw [List.cons_append, homeL, if_neg (h p (by simp)), ih _ _ _ (fun q hq => h q (by simp [hq])), cntL_cons]
    congr 1
    · simp; omega
    · omega
theorem homeL_some {key : Int} : ∀ (a b : List (Int × Int)) (i s : Int), (∃ p ∈ a, srv key p.1 p.2) → homeL key (a ++ b) i s = homeL key a i s := by
  intro a
  induction a with
  | nil => intro b i s h; obtain ⟨p, hp, _⟩ := h; cases hp
  | cons p r ih =>
    intro b i s h
    rw [List.cons_append, homeL, homeL]
    by_cases hp : srv key p.1 p.2
    · rw [if_pos hp, if_pos hp]
    · rw [if_neg hp, if_neg hp]
      refine ih _ _ _ ?_
      obtain ⟨q, hq, hs⟩ := h
      rcases List.mem_cons.1 hq with rfl | hq
      · exact absurd hs hp
      · exact ⟨q, hq, hs⟩
/-- one step down for Home -/
theorem Good.home_step {d n : Nat} (h : Good f g (d + 1) n) (key : Int) (hs : srv key (f n) (g n)) (i s : Int) :
    if srv key (f (2 * n)) (g (2 * n)) then homeL key (lvs f g (d + 1) n) i s = homeL key (lvs f g d (2 * n)) i s
    else srv key (f (2 * n + 1)) (g (2 * n + 1)) ∧ homeL key (lvs f g (d + 1) n) i s = homeL key (lvs f g d (2 * n + 1)) (i + ((2 ^ d : Nat) : Int)) (s + g (2 * n)) := by
  obtain ⟨h1, h2, h3, h4⟩ := h
  obtain ⟨j1, j2, j3, j4⟩ := join_facts h2
  have o3 := own_facts h3.own
  have o4 := own_facts h4.own
  split
  · rename_i hl
    rw [lvs, homeL_some _ _ _ _ ((h3.srv_iff key).1 hl)]
  · rename_i hl
    refine ⟨?_, ?_⟩
    · obtain ⟨k1, k2⟩ := hs
      by_cases hb : 0 < g (2 * n + 1)
      · exact ⟨hb, by have := j2 hb; omega⟩
      · exact absurd ⟨by omega, by have := j3 hb; omega⟩ hl
    · rw [lvs, homeL_none _ _ _ _ (fun p hp hq => hl ((h3.srv_iff key).2 ⟨p, hp, hq⟩)), lvs_length, h3.cnt]
/-- Nth, leaf by leaf -/
def nthL : List (Int × Int) → Int → Int → Int × Int × Int
  | [], _, _ => (0, 0, 290)
  | p :: r, i, k => if k < p.2 then (i, k, 0) else nthL r (i + 1) (k - p.2)
theorem nthL_past : ∀ (a b : List (Int × Int)) (i k : Int), (∀ p ∈ a, 0 ≤ p.2) → cntL a ≤ k → nthL (a ++ b) i k = nthL b (i + a.length) (k - cntL a) := by
  intro a
  induction a with
  | nil => intro b i k _ _; simp [cntL]
  | cons p r ih =>
    intro b i k h hk
    rw [cntL_cons] at hk
    have hr : 0 ≤ cntL r := by
      have : ∀ l : List (Int × Int), (∀ p ∈ l, 0 ≤ p.2) → 0 ≤ cntL l := by
        intro l
        induction l with
        | nil => intro _; simp [cntL]
        | cons q t iht => intro hq; rw [cntL_cons]; have := hq q (by simp); have := iht fun x hx => hq x (by simp [hx]); omega
      exact this r fun q hq => h q (by simp [hq])
    rw [List.cons_append, nthL, if_neg (by omega), ih _ _ _ (fun q hq => h q (by simp [hq])) (by omega), cntL_cons]
    congr 1
    · simp; omega
    · omega
theorem nthL_in : ∀ (a b : List (Int × Int)) (i k : Int), 0 ≤ k → k < cntL a → nthL (a ++ b) i k = nthL a i k := by
  intro a
  induction a with
  | nil => intro b i k h0 h; simp [cntL] at h; omega
  | cons p r ih =>
    intro b i k h0 h
    rw [cntL_cons] at h
    rw [List.cons_append, nthL, nthL]
    by_cases hp : k < p.2
    · rw [if_pos hp, if_pos hp]
    · rw [if_neg hp, if_neg hp]
      exact ih _ _ _ (by omega) (by omega)
end
end

section
open Go.RowKit

/-- n leaves behind those that are ahead of a node: its own -/
theorem lvs_take {f g : Nat → Int} {D d m : Nat} (hd : d ≤ D) (h1 : 2 ^ D ≤ m * 2 ^ d) (h2 : (m + 1) * 2 ^ d ≤ 2 * 2 ^ D) :
    (lvs f g D 1).take (m * 2 ^ d - 2 ^ D + 2 ^ d) = (lvs f g D 1).take (m * 2 ^ d - 2 ^ D) ++ lvs f g d m := by
  rw [Nat.add_mul, Nat.one_mul] at h2
  obtain ⟨P, hP⟩ : ∃ P, m * 2 ^ d = P := ⟨_, rfl⟩
  rw [hP] at h1 h2 ⊢
  have p1 := Nat.two_pow_pos d
  have p2 := Nat.two_pow_pos D
  generalize hQ : 2 ^ D = Q at h1 h2 p2 ⊢
  generalize hR : 2 ^ d = R at h2 p1 ⊢
  have e : ((lvs f g D 1).take (P - Q)).length = P - Q := by
    rw [List.length_take, lvs_length, hQ]
    omega
  refine List.ext_getElem? fun k => ?_
  by_cases hk : k < P - Q
  · rw [List.getElem?_take, if_pos (by omega), List.getElem?_append_left (by rw [e]; exact hk), List.getElem?_take, if_pos hk]
  · rw [List.getElem?_append_right (by rw [e]; omega), e]
    by_cases hk2 : k < P - Q + R
    · rw [List.getElem?_take, if_pos hk2, lvs_get _ _ _ (by rw [hQ]; omega), lvs_get _ _ _ (by rw [hR]; omega), hP, hQ]
      rw [show 1 * Q + k = P + (k - (P - Q)) by omega]
    · rw [List.getElem?_take, if_neg hk2, List.getElem?_eq_none (by rw [lvs_length, hR]; omega)]
/-- how many keys stand ahead of a leaf: one step down -/
theorem Good.ahead {f g : Nat → Int} {D d m : Nat} (h : Good f g d m) (hd : d ≤ D) (h1 : 2 ^ D ≤ m * 2 ^ d) (h2 : (m + 1) * 2 ^ d ≤ 2 * 2 ^ D) :
    cntL ((lvs f g D 1).take (m * 2 ^ d - 2 ^ D + 2 ^ d)) = cntL ((lvs f g D 1).take (m * 2 ^ d - 2 ^ D)) + g m := by
  rw [lvs_take hd h1 h2, cntL_append, h.cnt]
/-- one step down for Nth -/
theorem Good.nth_step {f g : Nat → Int} {d n : Nat} (h : Good f g (d + 1) n) (i k : Int) (h0 : 0 ≤ k) (hk : k < g n) :
    if k < g (2 * n) then nthL (lvs f g (d + 1) n) i k = nthL (lvs f g d (2 * n)) i k
    else k - g (2 * n) < g (2 * n + 1) ∧ nthL (lvs f g (d + 1) n) i k = nthL (lvs f g d (2 * n + 1)) (i + ((2 ^ d : Nat) : Int)) (k - g (2 * n)) := by
  obtain ⟨h1, h2, h3, h4⟩ := h
  obtain ⟨j1, -, -, -⟩ := join_facts h2
  split
  · rename_i hl
    rw [lvs, nthL_in _ _ _ _ h0 (by rw [h3.cnt]; exact hl)]
  · rename_i hl
    refine ⟨by omega, ?_⟩
    rw [lvs, nthL_past _ _ _ _ h3.nonneg (by rw [h3.cnt]; omega), lvs_length, h3.cnt]
end

section
open Go.RowKit

def HomeP (key : Int) (f g : Nat → Int) (D d n : Nat) (s : Int) : Prop :=
  Good f g d n ∧ srv key (f n) (g n) ∧ homeL key (lvs f g D 1) 0 0 = homeL key (lvs f g d n) (((n * 2 ^ d : Nat) : Int) - ((2 ^ D : Nat) : Int)) s ∧ 0 ≤ s ∧ s + g n ≤ 65536
theorem down_left (n d : Nat) : 2 * n * 2 ^ d = n * 2 ^ (d + 1) := by rw [Nat.pow_succ, Nat.mul_comm 2 n, Nat.mul_assoc, Nat.mul_comm 2]
theorem down_right (n d : Nat) : (2 * n + 1) * 2 ^ d = n * 2 ^ (d + 1) + 2 ^ d := by rw [Nat.add_mul, Nat.one_mul, down_left]
theorem HomeP.step {key : Int} {f g : Nat → Int} {D d n : Nat} {s : Int} (h : HomeP key f g D (d + 1) n s) :
    (0 ≤ s ∧ s ≤ 65536 ∧ 0 ≤ s + g (2 * n) ∧ s + g (2 * n) ≤ 65536) ∧ if decide (srv key (f (2 * n)) (g (2 * n))) = true then HomeP key f g D d (2 * n) s else HomeP key f g D d (2 * n + 1) (s + g (2 * n)) := by
  obtain ⟨hg, hs, he, h0, h1⟩ := h
  have hst := hg.home_step key hs (((n * 2 ^ (d + 1) : Nat) : Int) - ((2 ^ D : Nat) : Int)) s
  obtain ⟨o1, o2, -⟩ := own_facts hg.own
  obtain ⟨-, j, hl, hr⟩ := hg
  obtain ⟨j1, -⟩ := join_facts j
  obtain ⟨l1, l2, -⟩ := own_facts hl.own
  obtain ⟨r1, r2, -⟩ := own_facts hr.own
  refine ⟨⟨h0, by omega, by omega, by omega⟩, ?_⟩
  by_cases hk : srv key (f (2 * n)) (g (2 * n))
  · rw [if_pos hk] at hst
    rw [if_pos (decide_eq_true hk)]
    refine ⟨hl, hk, ?_, h0, by omega⟩
    rw [he, hst, down_left]
  · rw [if_neg hk] at hst
    rw [if_neg (by simp [hk])]
    refine ⟨hr, hst.1, ?_, by omega, by omega⟩
    rw [he, hst.2, down_right]
    congr 1
    push_cast
    omega
theorem HomeP.root {key : Int} {f g : Nat → Int} {D : Nat} (hg : Good f g D 1) (hs : srv key (f 1) (g 1)) : HomeP key f g D D 1 0 := by
  obtain ⟨o1, o2, -⟩ := own_facts hg.own
  refine ⟨hg, hs, ?_, Int.le_refl _, by omega⟩
  rw [Nat.one_mul, Int.sub_self]
theorem HomeP.last {key : Int} {f g : Nat → Int} {D n F : Nat} {s : Int} (h : HomeP key f g D 0 n s) (hF : 2 ^ D = F) : homeL key (lvs f g D 1) 0 0 = ((n : Int) - F, s, 0) := by
  obtain ⟨hg, hs, he, h0, h1⟩ := h
  rw [he, lvs, homeL, if_pos hs, hF, Nat.pow_zero, Nat.mul_one]

def NthP (k : Int) (f g : Nat → Int) (D d n : Nat) (s : Int) : Prop :=
  Good f g d n ∧ (0 ≤ k - s ∧ k - s < g n) ∧ nthL (lvs f g D 1) 0 k = nthL (lvs f g d n) (((n * 2 ^ d : Nat) : Int) - ((2 ^ D : Nat) : Int)) (k - s) ∧ 0 ≤ s ∧ s + g n ≤ 65536
theorem NthP.step {k : Int} {f g : Nat → Int} {D d n : Nat} {s : Int} (h : NthP k f g D (d + 1) n s) :
    (0 ≤ s ∧ s ≤ 65536 ∧ 0 ≤ s + g (2 * n) ∧ s + g (2 * n) ≤ 65536) ∧ if decide (k - s < g (2 * n)) = true then NthP k f g D d (2 * n) s else NthP k f g D d (2 * n + 1) (s + g (2 * n)) := by
  obtain ⟨hg, ⟨hs1, hs2⟩, he, h0, h1⟩ := h
  have hst := hg.nth_step (((n * 2 ^ (d + 1) : Nat) : Int) - ((2 ^ D : Nat) : Int)) (k - s) hs1 hs2
  obtain ⟨o1, o2, -⟩ := own_facts hg.own
  obtain ⟨-, j, hl, hr⟩ := hg
  obtain ⟨j1, -⟩ := join_facts j
  obtain ⟨l1, l2, -⟩ := own_facts hl.own
  obtain ⟨r1, r2, -⟩ := own_facts hr.own
  refine ⟨⟨h0, by omega, by omega, by omega⟩, ?_⟩
  by_cases hk : k - s < g (2 * n)
  · rw [if_pos hk] at hst
    rw [if_pos (decide_eq_true hk)]
    refine ⟨hl, ⟨hs1, hk⟩, ?_, h0, by omega⟩
    rw [he, hst, down_left]
  · rw [if_neg hk] at hst
    rw [if_neg (by simp [hk])]
    refine ⟨hr, by omega, ?_, by omega, by omega⟩
    rw [he, hst.2, down_right]
    congr 1
    · push_cast
      omega
    · omega
theorem NthP.root {k : Int} {f g : Nat → Int} {D : Nat} (hg : Good f g D 1) (h0 : 0 ≤ k) (h1 : k < g 1) : NthP k f g D D 1 0 := by
  obtain ⟨o1, o2, -⟩ := own_facts hg.own
  refine ⟨hg, by omega, ?_, Int.le_refl _, by omega⟩
  rw [Nat.one_mul, Int.sub_self, Int.sub_zero]
theorem NthP.last {k : Int} {f g : Nat → Int} {D n F : Nat} {s : Int} (h : NthP k f g D 0 n s) (hF : 2 ^ D = F) : nthL (lvs f g D 1) 0 k = ((n : Int) - F, k - s, 0) := by
  obtain ⟨hg, hs, he, h0, h1⟩ := h
  rw [he, lvs, nthL, if_pos hs.2, hF, Nat.pow_zero, Nat.mul_one]
end
end Go.Proofs.YtmnlagmmbfjbeaaGreatDoor

/- What an index is, in plain words. No function of the program is walked here. -/
import Derived.Test.YtbmibaafkgleeaaVebPlain
import Derived.Test.YtbmibaafkgleeaaFlat
namespace Go.Proofs.Ytbmibaafkgleeaa
open Go.RowKit
set_option linter.unusedVariables false
set_option linter.unusedSimpArgs false

theorem fillTo_bd (n : Nat) (l : List Nat) : ∀ k i, 0 ≤ (fillTo n l k).getD i 0 ∧ ((fillTo n l k).getD i 0 = 0 ∨ (fillTo n l k).getD i 0 < k) := by
  intro k
  induction k with
  | zero => intro i; simp [fillTo, List.getD_eq_getElem?_getD, List.getElem?_replicate]; split <;> simp
  | succ k ih =>
    intro i
    have h := ih i
    by_cases hi : i < (fillTo n l k).length
    · rw [fillTo, set_getD hi]
      split
      · omega
      · omega
    · have : (fillTo n l (k + 1)).getD i 0 = 0 := by
        rw [List.getD_eq_getElem?_getD, List.getElem?_eq_none (by rw [fillTo_length] at *; omega)]; rfl
      omega
theorem plc_length (L : Nat) : (plc L).length = 2 ^ L - 1 := by rw [plc, fillTo_length]
theorem plc_bd {L : Nat} (h : 1 ≤ L) (i : Nat) : 0 ≤ (plc L).getD i 0 ∧ (plc L).getD i 0 < ((2 ^ L - 1 : Nat) : Int) := by
  have h1 := fillTo_bd (2 ^ L - 1) (lay L 1) (2 ^ L - 1) i
  have h2 : 2 ^ 1 ≤ 2 ^ L := Nat.pow_le_pow_right (by omega) h
  rw [plc]
  omega
/-- the place of a node -/
def pcF (L n : Nat) : Int := if n = 0 then 0 else (plc L).getD (n - 1) 0
/-- what a node tells: out of a row of greatest keys, out of one of counts -/
def tlF (L : Nat) (ms : List Int) (n : Nat) : Int := if n = 0 then 0 else ms.getD (pcF L n).toNat 0
/-- up to a node -/
def upTo (f : Nat → Int) (k : Nat) : Nat → Int := fun n => if n ≤ k then f n else 0
theorem putF_upTo (f : Nat → Int) (k : Nat) (v : Int) (h : v = f (k + 1)) : putF (upTo f k) (k + 1) v = upTo f (k + 1) := by
  funext n
  unfold putF upTo
  by_cases e : n = k + 1
  · subst e; simp [h]
  · simp [e]
    by_cases h2 : n ≤ k
    · rw [if_pos h2, if_pos (by omega)]
    · rw [if_neg h2, if_neg (by omega)]
theorem upTo_zero {f : Nat → Int} (h : f 0 = 0) : upTo f 0 = fun _ => 0 := by
  funext n
  unfold upTo
  split
  · rename_i h2; rw [show n = 0 by omega, h]
  · rfl
theorem pcF_zero (L : Nat) : pcF L 0 = 0 := rfl
theorem tlF_zero (L : Nat) (ms : List Int) : tlF L ms 0 = 0 := rfl
theorem pcF_bd {L : Nat} (h : 1 ≤ L) (n : Nat) : 0 ≤ pcF L n ∧ pcF L n < ((2 ^ L - 1 : Nat) : Int) := by
  unfold pcF
  have h2 : 2 ^ 1 ≤ 2 ^ L := Nat.pow_le_pow_right (by omega) h
  split
  · omega
  · exact plc_bd h _

/-- what a node says by itself -/
def ownB (m c : Int) : Bool := decide (0 ≤ c) && decide (c ≤ 65536) && (decide (c ≠ 0) || decide (m = 0))
/-- what the node above two tells -/
def abM (am bm bc : Int) : Int := if 0 < bc then bm else am
def abC (ac bc : Int) : Int := if 0 < bc then ac + bc else ac
/-- what three nodes say together: the program's test, the reference's -/
def joinP (m c am ac bm bc : Int) : Bool := decide (ac ≤ c) && decide (bc ≤ c) && (decide (m = abM am bm bc) && decide (c = abC ac bc)) && !(decide (0 < ac) && decide (0 < bc) && decide (bm ≤ am))
def joinR (m c am ac bm bc : Int) : Bool := decide (0 ≤ ac) && decide (0 ≤ bc) && decide (ac ≤ c) && decide (bc = c - ac) && (decide (m = abM am bm bc) && decide (c = abC ac bc)) && (decide (ac = 0) || decide (bc = 0) || decide (am < bm))
theorem joinP_eq {m c am ac bm bc : Int} (ha : ownB am ac = true) (hb : ownB bm bc = true) : joinP m c am ac bm bc = joinR m c am ac bm bc := by
  simp only [ownB, Bool.and_eq_true, Bool.or_eq_true, decide_eq_true_eq] at ha hb
  rw [Bool.eq_iff_iff]
  simp only [joinP, joinR, abM, abC, Bool.and_eq_true, Bool.or_eq_true, decide_eq_true_eq, Bool.not_eq_true', Bool.and_eq_false_iff, decide_eq_false_iff_not]
  obtain ⟨⟨a1, a2⟩, a3⟩ := ha
  obtain ⟨⟨b1, b2⟩, b3⟩ := hb
  by_cases h : 0 < bc
  · simp only [h, if_true, decide_eq_true_eq]
    constructor
    · rintro ⟨⟨⟨h1, h2⟩, h3, h4⟩, h5⟩
      exact ⟨⟨⟨⟨⟨a1, b1⟩, h1⟩, by omega⟩, h3, h4⟩, by rcases h5 with (h5 | h5) | h5 <;> first | omega | exact absurd trivial h5⟩
    · rintro ⟨⟨⟨⟨⟨h0, h1⟩, h2⟩, h3⟩, h4, h5⟩, h6⟩
      exact ⟨⟨⟨h2, by omega⟩, h4, h5⟩, by rcases h6 with (h6 | h6) | h6 <;> omega⟩
  · simp only [h, if_false, decide_eq_true_eq]
    constructor
    · rintro ⟨⟨⟨h1, h2⟩, h3, h4⟩, h5⟩
      exact ⟨⟨⟨⟨⟨a1, b1⟩, h1⟩, by omega⟩, h3, h4⟩, by omega⟩
    · rintro ⟨⟨⟨⟨⟨h0, h1⟩, h2⟩, h3⟩, h4, h5⟩, h6⟩
      exact ⟨⟨⟨h2, by omega⟩, h4, h5⟩, .inl (.inr fun h => h)⟩
/-- a node may be -/
def ndB (L : Nat) (ms cs : List Int) (n : Nat) : Bool := ownB (tlF L ms n) (tlF L cs n) && (decide (2 ^ L - 1 < 2 * n) || joinR (tlF L ms n) (tlF L cs n) (tlF L ms (2 * n)) (tlF L cs (2 * n)) (tlF L ms (2 * n + 1)) (tlF L cs (2 * n + 1)))
def ixFit (l : Int) (ms cs : List Int) : Prop := 1 ≤ l ∧ l ≤ 14 ∧ ms.length = 2 ^ l.toNat - 1 ∧ cs.length = 2 ^ l.toNat - 1
instance (l : Int) (ms cs : List Int) : Decidable (ixFit l ms cs) := by unfold ixFit; infer_instance
/-- all nodes from one on may be -/
def allFrom (p : Nat → Bool) (n k : Nat) : Bool := (List.range k).all fun i => p (n + i)
theorem allFrom_iff {p : Nat → Bool} {n k : Nat} : allFrom p n k = true ↔ ∀ m, n ≤ m → m < n + k → p m = true := by
  unfold allFrom
  simp only [List.all_eq_true, List.mem_range]
  constructor
  · intro h m h1 h2
    have := h (m - n) (by omega)
    rwa [show n + (m - n) = m by omega] at this
  · intro h i hi
    exact h _ (by omega) (by omega)
theorem allFrom_not {p : Nat → Bool} {n k m : Nat} (h1 : n ≤ m) (h2 : m < n + k) (h : p m = false) : allFrom p n k = false := by
  by_cases hh : allFrom p n k = true
  · rw [allFrom_iff.1 hh m h1 h2] at h; cases h
  · simpa using hh
def ixMay (l : Int) (ms cs : List Int) : Bool := decide (ixFit l ms cs) && allFrom (ndB l.toNat ms cs) 1 (2 ^ l.toNat - 1)
def ixE (l : Int) (ms cs : List Int) : Int := if ixMay l ms cs = true then 0 else 8
end Go.Proofs.Ytbmibaafkgleeaa

/- The index of an array in plain words: it may be; each node tells the count and the greatest key of its run of pairs. No function of the program is walked here. -/
import Derived.Test.YtbmibaafkgleeaaIdxTr
import Derived.Test.YtbmibaafkgleeaaDwnP
namespace Go.Proofs.Ytbmibaafkgleeaa
open Go.RowKit
set_option linter.unusedVariables false
set_option linter.unusedSimpArgs false

/-- what a run of pairs tells -/
def tellT (l : List (Int × Int)) : Int × Int := if l = [] then (0, 0) else ((l.getD (l.length - 1) (0, 0)).1, (l.length : Nat))
theorem leafT_tell (c : SlC) (k : Nat) : leafT c k = tellT (prs c (k * c.seg.toNat) ((k + 1) * c.seg.toNat)) := rfl
theorem plsW_append (ws : List Int) {a b d : Nat} (h1 : a ≤ b) (h2 : b ≤ d) : plsW ws a b ++ plsW ws b d = plsW ws a d := by
  unfold plsW
  rw [← List.filter_append]
  congr 1
  have := List.range'_append_1 (s := a) (m := b - a) (n := d - b)
  rw [show a + (b - a) = b by omega, show b - a + (d - b) = d - a by omega] at this
  exact this
theorem prs_append (c : SlC) {a b d : Nat} (h1 : a ≤ b) (h2 : b ≤ d) : prs c a b ++ prs c b d = prs c a d := by
  unfold prs
  rw [← List.map_append, plsW_append c.ws h1 h2]
/-- keys rise -/
def Ris (l : List (Int × Int)) : Prop := l.Pairwise fun p q => p.1 < q.1
theorem Ris.apart {a b : List (Int × Int)} (h : Ris (a ++ b)) : Ris a ∧ Ris b ∧ ∀ p ∈ a, ∀ q ∈ b, p.1 < q.1 := by
  have := List.pairwise_append.1 h
  exact this
theorem Ris.prs {c : SlC} {n : Nat} (h : Ris (prs c 0 n)) {a b : Nat} (h1 : a ≤ b) (h2 : b ≤ n) : Ris (Go.Proofs.Ytbmibaafkgleeaa.prs c a b) := by
  rw [← prs_append c (Nat.zero_le b) h2] at h
  have h3 := h.apart.1
  rw [← prs_append c (Nat.zero_le a) h1] at h3
  exact h3.apart.2.1
/-- the segments under a node -/
def unF (D n : Nat) : Nat := n * 2 ^ (D - n.log2) - 2 ^ D
def unT (D n : Nat) : Nat := unF D n + 2 ^ (D - n.log2)
theorem un_bd {D n : Nat} (h1 : 1 ≤ n) (h2 : n < 2 ^ (D + 1)) : 2 ^ D ≤ n * 2 ^ (D - n.log2) ∧ n * 2 ^ (D - n.log2) + 2 ^ (D - n.log2) ≤ 2 * 2 ^ D ∧ unT D n ≤ 2 ^ D := by
  obtain ⟨k1, k2⟩ := node_dj h1
  have hl : n.log2 < D + 1 := (Nat.log2_lt (by omega)).2 h2
  have e : 2 ^ D = 2 ^ n.log2 * 2 ^ (D - n.log2) := by rw [← Nat.pow_add]; congr 1; omega
  have k3 : 2 ^ n.log2 * 2 ^ (D - n.log2) ≤ n * 2 ^ (D - n.log2) := Nat.mul_le_mul_right _ k1
  have k4 : (n + 1) * 2 ^ (D - n.log2) ≤ (2 * 2 ^ n.log2) * 2 ^ (D - n.log2) := Nat.mul_le_mul_right _ (by omega)
  rw [Nat.mul_assoc, ← e, Nat.add_mul, Nat.one_mul] at k4
  rw [← e] at k3
  unfold unT unF
  omega
theorem prs_le {c : SlC} {a b : Nat} : (prs c a b).length ≤ b - a := by
  rw [prs_length]
  exact cntW_le _ _ _
/-- Under, in the words of heap -/
theorem un_heap {D n : Nat} (h1 : 1 ≤ n) (h2 : n < 2 ^ (D + 1)) : fst ((D + 1 : Nat) : Int) (n : Int) = (unF D n : Nat) ∧ fst ((D + 1 : Nat) : Int) (n : Int) + cnt ((D + 1 : Nat) : Int) (n : Int) = (unT D n : Nat) := by
  obtain ⟨u1, u2, u3⟩ := un_bd h1 h2
  have e1 : ((D + 1 : Nat) : Int).toNat - 1 = D := by omega
  have e2 : (n : Int) * 2 ^ (D - n.log2) = ((n * 2 ^ (D - n.log2) : Nat) : Int) := by push_cast; rfl
  have e3 : (2 : Int) ^ D = ((2 ^ D : Nat) : Int) := by push_cast; rfl
  have e4 : (2 : Int) ^ (D - n.log2) = ((2 ^ (D - n.log2) : Nat) : Int) := by push_cast; rfl
  unfold fst cnt unT unF
  rw [e1, Int.toNat_natCast, e2, e3, e4]
  omega
end Go.Proofs.Ytbmibaafkgleeaa

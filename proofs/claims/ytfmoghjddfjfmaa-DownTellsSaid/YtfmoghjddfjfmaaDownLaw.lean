/- What Home, Nth and Ahead answer, in plain words; what is kept on the way down. No function of the program is walked here. -/
import Derived.Test.YtfmoghjddfjfmaaDownMay
namespace Go.Proofs.Ytfmoghjddfjfmaa
open Go.RowKit
set_option linter.unusedVariables false
set_option linter.unusedSimpArgs false

/-- the leaves of an index -/
def lvsR (l : Int) (ms cs : List Int) : List (Int × Int) := lvs (tlF l.toNat ms) (tlF l.toNat cs) (l.toNat - 1) 1
def homT (l : Int) (ms cs : List Int) (key : Int) : Int × Int × Int := if ixMay l ms cs = true then homeL key (lvsR l ms cs) 0 0 else (0, 0, 8)
def nthT (l : Int) (ms cs : List Int) (k : Int) : Int × Int × Int := if ixMay l ms cs = true then (if k < 0 then (0, 0, 290) else nthL (lvsR l ms cs) 0 k) else (0, 0, 8)
def ahT (l : Int) (ms cs : List Int) (leaf : Int) : Int × Int := if ixMay l ms cs = true then (if leaf < 0 ∨ 2 ^ (l.toNat - 1) ≤ leaf then (0, 2) else (cntL ((lvsR l ms cs).take leaf.toNat), 0)) else (0, 8)

theorem ixMay_parts {l : Int} {ms cs : List Int} (h : ixMay l ms cs = true) : ∃ L D N F : Nat, l = L ∧ 1 ≤ L ∧ L ≤ 14 ∧ N + 1 = 2 ^ L ∧ D + 1 = L ∧ 2 ^ D = F ∧ N + 1 = 2 * F ∧ F ≤ 8192 ∧ 0 < F ∧ l.toNat = L ∧ l.toNat - 1 = D ∧ ms.length = N ∧ cs.length = N ∧ Good (tlF L ms) (tlF L cs) D 1 := by
  unfold ixMay at h
  rw [Bool.and_eq_true, decide_eq_true_eq] at h
  obtain ⟨⟨h1, h2, h3, h4⟩, h5⟩ := h
  have hp := Nat.two_pow_pos l.toNat
  have e : 2 ^ l.toNat = 2 * 2 ^ (l.toNat - 1) := by rw [show l.toNat = l.toNat - 1 + 1 by omega, Nat.pow_succ]; simp; omega
  refine ⟨l.toNat, l.toNat - 1, 2 ^ l.toNat - 1, 2 ^ (l.toNat - 1), by omega, by omega, by omega, by omega, by omega, rfl, by omega, Nat.pow_le_pow_right (by omega) (by omega : l.toNat - 1 ≤ 13), Nat.two_pow_pos _, rfl, rfl, h3, h4, good_root (by omega) h5⟩

/-- the root stands first -/
theorem pcF_root {L : Nat} (h : 1 ≤ L) : pcF L 1 = 0 := by
  have h2 : 2 ^ 1 ≤ 2 ^ L := Nat.pow_le_pow_right (by omega) h
  rw [pcF, if_neg (by omega), plc_get h (by omega) (by omega), vpos, log2_one (Nat.le_refl _)]
  have := pos_zero L L (Nat.le_refl _)
  simp [this]
theorem tlF_root {L : Nat} (h : 1 ≤ L) (ms : List Int) : tlF L ms 1 = ms.getD 0 0 := by
  rw [tlF, if_neg (by omega), pcF_root h]
  rfl

def HomeP (key : Int) (f g : Nat → Int) (D d n : Nat) (s : Int) : Prop :=
  Good f g d n ∧ srv key (f n) (g n) ∧ homeL key (lvs f g D 1) 0 0 = homeL key (lvs f g d n) (((n * 2 ^ d : Nat) : Int) - ((2 ^ D : Nat) : Int)) s ∧ 0 ≤ s ∧ s + g n ≤ 65536
theorem down_left (n d : Nat) : 2 * n * 2 ^ d = n * 2 ^ (d + 1) := by rw [Nat.pow_succ, Nat.mul_comm 2 n, Nat.mul_assoc, Nat.mul_comm 2]
theorem down_right (n d : Nat) : (2 * n + 1) * 2 ^ d = n * 2 ^ (d + 1) + 2 ^ d := by rw [Nat.add_mul, Nat.one_mul, down_left]
theorem HomeP.step {key : Int} {f g : Nat → Int} {D d n : Nat} {s : Int} (h : HomeP key f g D (d + 1) n s) :
    (0 ≤ s ∧ s ≤ 65536 ∧ 0 ≤ s + g (2 * n) ∧ s + g (2 * n) ≤ 65536) ∧ if decide (srv key (f (2 * n)) (g (2 * n))) = true then HomeP key f g D d (2 * n) s else HomeP key f g D d (2 * n + 1) (s + g (2 * n)) := by
  obtain ⟨hg, hs, he, h0, h1⟩ := h
  have hst := hg.home_step key hs (((n * 2 ^ (d + 1) : Nat) : Int) - ((2 ^ D : Nat) : Int)) s
  obtain ⟨o1, o2, -⟩ := own_facts hg.own
  obtain ⟨-, j, hl, hr⟩ := hg
  obtain ⟨j1, -⟩ := join_facts j
  obtain ⟨l1, l2, -⟩ := own_facts hl.own
  obtain ⟨r1, r2, -⟩ := own_facts hr.own
  refine ⟨⟨h0, by omega, by omega, by omega⟩, ?_⟩
  by_cases hk : srv key (f (2 * n)) (g (2 * n))
  · rw [if_pos hk] at hst
    rw [if_pos (decide_eq_true hk)]
    refine ⟨hl, hk, ?_, h0, by omega⟩
    rw [he, hst, down_left]
  · rw [if_neg hk] at hst
    rw [if_neg (by simp [hk])]
    refine ⟨hr, hst.1, ?_, by omega, by omega⟩
    rw [he, hst.2, down_right]
    congr 1
    push_cast
    omega
theorem HomeP.root {key : Int} {f g : Nat → Int} {D : Nat} (hg : Good f g D 1) (hs : srv key (f 1) (g 1)) : HomeP key f g D D 1 0 := by
  obtain ⟨o1, o2, -⟩ := own_facts hg.own
  refine ⟨hg, hs, ?_, Int.le_refl _, by omega⟩
  rw [Nat.one_mul, Int.sub_self]
theorem HomeP.last {key : Int} {f g : Nat → Int} {D n F : Nat} {s : Int} (h : HomeP key f g D 0 n s) (hF : 2 ^ D = F) : homeL key (lvs f g D 1) 0 0 = ((n : Int) - F, s, 0) := by
  obtain ⟨hg, hs, he, h0, h1⟩ := h
  rw [he, lvs, homeL, if_pos hs, hF, Nat.pow_zero, Nat.mul_one]

def NthP (k : Int) (f g : Nat → Int) (D d n : Nat) (s : Int) : Prop :=
  Good f g d n ∧ (0 ≤ k - s ∧ k - s < g n) ∧ nthL (lvs f g D 1) 0 k = nthL (lvs f g d n) (((n * 2 ^ d : Nat) : Int) - ((2 ^ D : Nat) : Int)) (k - s) ∧ 0 ≤ s ∧ s + g n ≤ 65536
theorem NthP.step {k : Int} {f g : Nat → Int} {D d n : Nat} {s : Int} (h : NthP k f g D (d + 1) n s) :
    (0 ≤ s ∧ s ≤ 65536 ∧ 0 ≤ s + g (2 * n) ∧ s + g (2 * n) ≤ 65536) ∧ if decide (k - s < g (2 * n)) = true then NthP k f g D d (2 * n) s else NthP k f g D d (2 * n + 1) (s + g (2 * n)) := by
  obtain ⟨hg, ⟨hs1, hs2⟩, he, h0, h1⟩ := h
  have hst := hg.nth_step (((n * 2 ^ (d + 1) : Nat) : Int) - ((2 ^ D : Nat) : Int)) (k - s) hs1 hs2
  obtain ⟨o1, o2, -⟩ := own_facts hg.own
  obtain ⟨-, j, hl, hr⟩ := hg
  obtain ⟨j1, -⟩ := join_facts j
  obtain ⟨l1, l2, -⟩ := own_facts hl.own
  obtain ⟨r1, r2, -⟩ := own_facts hr.own
  refine ⟨⟨h0, by omega, by omega, by omega⟩, ?_⟩
  by_cases hk : k - s < g (2 * n)
  · rw [if_pos hk] at hst
    rw [if_pos (decide_eq_true hk)]
    refine ⟨hl, ⟨hs1, hk⟩, ?_, h0, by omega⟩
    rw [he, hst, down_left]
  · rw [if_neg hk] at hst
    rw [if_neg (by simp [hk])]
    refine ⟨hr, by omega, ?_, by omega, by omega⟩
    rw [he, hst.2, down_right]
    congr 1
    · push_cast
      omega
    · omega
theorem NthP.root {k : Int} {f g : Nat → Int} {D : Nat} (hg : Good f g D 1) (h0 : 0 ≤ k) (h1 : k < g 1) : NthP k f g D D 1 0 := by
  obtain ⟨o1, o2, -⟩ := own_facts hg.own
  refine ⟨hg, by omega, ?_, Int.le_refl _, by omega⟩
  rw [Nat.one_mul, Int.sub_self, Int.sub_zero]
theorem NthP.last {k : Int} {f g : Nat → Int} {D n F : Nat} {s : Int} (h : NthP k f g D 0 n s) (hF : 2 ^ D = F) : nthL (lvs f g D 1) 0 k = ((n : Int) - F, k - s, 0) := by
  obtain ⟨hg, hs, he, h0, h1⟩ := h
  rw [he, lvs, nthL, if_pos hs.2, hF, Nat.pow_zero, Nat.mul_one]
end Go.Proofs.Ytfmoghjddfjfmaa

/- Merged: Conf, ConfD, GapPl. -/
import Derived.Test.YtjhpblejlchhjaaGreatBitsSl
import Derived.Test.YtjhpblejlchhjaaGreatBitFits
namespace Go.Proofs.YtjhpblejlchhjaaGreat
set_option maxRecDepth 100000
set_option maxHeartbeats 4000000
set_option linter.unusedVariables false
set_option linter.unusedSimpArgs false
section
open Go.RowKit

structure Cfg where
  tag : Int
  most : Int
  seg : Int
  least : Int
  den : Int
  ll : Int
  rl : Int
  rh : Int
  lh : Int
@[reducible] def cfV (c : Cfg) : Value := .agg #[.int .u8 c.tag, .int .i64 c.most, .int .i64 c.seg, .int .i64 c.least, .int .i64 c.den, .int .i64 c.ll, .int .i64 c.rl, .int .i64 c.rh, .int .i64 c.lh]
def crossV (a b c d : Int) : Int := if 0 < b * c - a * d then -1 else if b * c - a * d < 0 then 1 else 0
def powB (n lo hi : Int) : Bool := decide (lo ≤ n) && decide (n ≤ hi) && pwB n
def takF (c : Cfg) (n : Int) : Nat → Int → Int
  | 0, size => size
  | k + 1, size => if c.rh * size < n * c.den then takF c n k (2 * size) else size
def taks (c : Cfg) (n : Int) : Int := takF c n 20 c.least
def htC (c : Cfg) (size : Int) : Nat := (size / c.seg).toNat.log2
def cfHead (c : Cfg) : Bool :=
  decide (1 ≤ c.tag) && decide (c.tag ≤ 3) && decide (1 ≤ c.most) && decide (c.most ≤ 16384) && powB c.seg 4 64 && powB c.least c.seg 256 && decide (1 ≤ c.den) && decide (c.den ≤ 64) &&
  decide (0 ≤ c.ll) && decide (c.ll < c.rl) && decide (c.rl < c.rh) && decide (c.rh < c.lh) && decide (c.lh ≤ c.den) && decide (c.den ≤ 2 * c.rh) && decide (8 * c.rl ≤ c.den) && decide (2 * c.den ≤ c.rl * c.least)
def cfMay (c : Cfg) : Bool := cfHead c && decide (c.den * htC c (taks c c.most) ≤ (c.lh - c.rh) * c.seg)
def cfE (c : Cfg) : Int := if cfMay c = true then 0 else 50
def cfHeadR (c : Cfg) : Bool :=
  decide (1 ≤ c.tag) && decide (c.tag ≤ 3) && decide (1 ≤ c.most) && decide (c.most ≤ 16384) && powB c.seg 4 64 && powB c.least c.seg 256 && decide (1 ≤ c.den) && decide (c.den ≤ 64) &&
  decide (0 ≤ c.ll) && decide (c.ll < c.rl) && decide (c.rh < c.lh) && decide (c.lh ≤ c.den) && decide (c.rl ≤ c.den) && decide (0 ≤ c.rh) && decide (c.den ≤ 2 * c.rh) && decide (8 * c.rl ≤ c.den) && decide (2 * c.den ≤ c.rl * c.least)
theorem powB_iff {n lo hi : Int} : powB n lo hi = true ↔ lo ≤ n ∧ n ≤ hi ∧ pwB n = true := by
  simp only [powB, Bool.and_eq_true, decide_eq_true_eq]
  exact ⟨fun h => ⟨h.1.1, h.1.2, h.2⟩, fun h => ⟨⟨h.1, h.2.1⟩, h.2.2⟩⟩
theorem cfHeadR_eq (c : Cfg) : cfHeadR c = cfHead c := by
  rw [Bool.eq_iff_iff]
  simp only [cfHeadR, cfHead, Bool.and_eq_true, decide_eq_true_eq, powB_iff]
  constructor
  · rintro ⟨⟨⟨⟨⟨⟨⟨⟨⟨⟨⟨⟨⟨⟨⟨⟨h1, h2⟩, h3⟩, h4⟩, h5⟩, h6⟩, h7⟩, h8⟩, h9⟩, h10⟩, h11⟩, h12⟩, h13⟩, h14⟩, h15⟩, h16⟩, h17⟩
    exact ⟨⟨⟨⟨⟨⟨⟨⟨⟨⟨⟨⟨⟨⟨⟨h1, h2⟩, h3⟩, h4⟩, h5⟩, h6⟩, h7⟩, h8⟩, h9⟩, h10⟩, by omega⟩, h11⟩, h12⟩, h15⟩, h16⟩, h17⟩
  · rintro ⟨⟨⟨⟨⟨⟨⟨⟨⟨⟨⟨⟨⟨⟨⟨h1, h2⟩, h3⟩, h4⟩, h5⟩, h6⟩, h7⟩, h8⟩, h9⟩, h10⟩, h11⟩, h12⟩, h13⟩, h14⟩, h15⟩, h16⟩
    exact ⟨⟨⟨⟨⟨⟨⟨⟨⟨⟨⟨⟨⟨⟨⟨⟨h1, h2⟩, h3⟩, h4⟩, h5⟩, h6⟩, h7⟩, h8⟩, h9⟩, h10⟩, h12⟩, h13⟩, by omega⟩, by omega⟩, h14⟩, h15⟩, h16⟩
theorem takF_done {c : Cfg} {n size : Int} (h : ¬ c.rh * size < n * c.den) : ∀ k, takF c n k size = size
  | 0 => rfl
  | k + 1 => if_neg h
theorem takF_bd {c : Cfg} {n : Int} : ∀ (k : Nat) (size : Int), 0 ≤ size → size ≤ takF c n k size ∧ takF c n k size ≤ size * 2 ^ k := by
  intro k
  induction k with
  | zero => intro size h0; rw [takF]; simp
  | succ k ih =>
    intro size h0
    rw [takF]
    split
    · obtain ⟨a, b⟩ := ih (2 * size) (by omega)
      have e : 2 * size * 2 ^ k = size * 2 ^ (k + 1) := by rw [Int.pow_succ, Int.mul_comm 2 size, Int.mul_assoc, Int.mul_comm 2]
      omega
    · have h2 : (1 : Int) ≤ 2 ^ (k + 1) := by
        have : (2 : Int) ^ (k + 1) = ((2 ^ (k + 1) : Nat) : Int) := by push_cast; rfl
        rw [this]
        have := Nat.two_pow_pos (k + 1)
        omega
      have := Int.mul_le_mul_of_nonneg_left h2 h0
      omega
end

section
open Go.RowKit

def wdC (c : Cfg) (h : Nat) : Int := c.seg * 2 ^ h
def limF (leaf root : Int) (high h : Nat) : Int := leaf * high + (root - leaf) * h
def dnsV (c : Cfg) (high h : Nat) (n leaf root : Int) : Int := if 0 < high then crossV n (wdC c h) (limF leaf root high h) (c.den * high) else crossV n (wdC c h) root c.den
def fulB (c : Cfg) (high h : Nat) (n : Int) : Bool := if high = 0 then decide (n * c.den ≤ wdC c h * c.rh) else decide (n * high * c.den ≤ wdC c h * (c.lh * ((high : Int) - h) + c.rh * h))
def sprB (c : Cfg) (size : Int) (high h : Nat) (n : Int) : Bool := decide (size = c.least) || decide (wdC c h * (c.ll * ((high : Int) - h) + c.rl * h) ≤ (n + 1) * high * c.den)
theorem cross_le (a b c d : Int) : decide (crossV a b c d ≤ 0) = decide (a * d ≤ b * c) := by
  unfold crossV
  congr 1
  apply propext
  split
  · omega
  · split <;> omega
theorem cross_ge (a b c d : Int) : decide (0 ≤ crossV a b c d) = decide (b * c ≤ a * d) := by
  unfold crossV
  congr 1
  apply propext
  split
  · omega
  · split <;> omega
theorem limF_eq (leaf root : Int) (high h : Nat) : limF leaf root high h = leaf * ((high : Int) - h) + root * h := by
  rw [limF, Int.mul_sub, Int.sub_mul]
  omega
theorem fulB_dns (c : Cfg) (high h : Nat) (n : Int) : decide (dnsV c high h n c.lh c.rh ≤ 0) = fulB c high h n := by
  unfold dnsV fulB
  rcases Nat.eq_zero_or_pos high with e | e
  · rw [if_neg (by omega), if_pos e, cross_le]
  · rw [if_pos e, if_neg (by omega), cross_le, limF_eq, Int.mul_comm c.den, ← Int.mul_assoc]
theorem sprB_dns (c : Cfg) (size : Int) (high h : Nat) (n : Int) (hz : 0 < high) : (decide (0 ≤ dnsV c high h (n + 1) c.ll c.rl)) = decide (wdC c h * (c.ll * ((high : Int) - h) + c.rl * h) ≤ (n + 1) * high * c.den) := by
  unfold dnsV
  rw [if_pos hz, cross_ge, limF_eq, Int.mul_comm c.den, ← Int.mul_assoc]
theorem cfHead_facts {c : Cfg} (h : cfHead c = true) : 1 ≤ c.tag ∧ c.tag ≤ 3 ∧ 1 ≤ c.most ∧ c.most ≤ 16384 ∧ powB c.seg 4 64 = true ∧ powB c.least c.seg 256 = true ∧ 1 ≤ c.den ∧ c.den ≤ 64 ∧ 0 ≤ c.ll ∧ c.ll < c.rl ∧ c.rl < c.rh ∧ c.rh < c.lh ∧ c.lh ≤ c.den ∧ c.den ≤ 2 * c.rh ∧ 8 * c.rl ≤ c.den ∧ 2 * c.den ≤ c.rl * c.least := by
  simp only [cfHead, Bool.and_eq_true, decide_eq_true_eq] at h
  obtain ⟨⟨⟨⟨⟨⟨⟨⟨⟨⟨⟨⟨⟨⟨⟨h1, h2⟩, h3⟩, h4⟩, h5⟩, h6⟩, h7⟩, h8⟩, h9⟩, h10⟩, h11⟩, h12⟩, h13⟩, h14⟩, h15⟩, h16⟩ := h
  exact ⟨h1, h2, h3, h4, h5, h6, h7, h8, h9, h10, h11, h12, h13, h14, h15, h16⟩
theorem powB_nat {n lo hi : Int} (h : powB n lo hi = true) : lo ≤ n ∧ n ≤ hi ∧ ∃ k : Nat, n = ((2 ^ k : Nat) : Int) := by
  obtain ⟨h1, h2, h3⟩ := powB_iff.1 h
  refine ⟨h1, h2, ?_⟩
  rcases Int.lt_or_le 0 n with h0 | h0
  · obtain ⟨m, rfl⟩ : ∃ m : Nat, n = m := ⟨n.toNat, by omega⟩
    obtain ⟨k, rfl⟩ := pwB_pow h3
    exact ⟨k, rfl⟩
  · rw [pwB_neg h0] at h3; cases h3
theorem pwB_two (k : Nat) : pwB ((2 ^ k : Nat) : Int) = true := by
  have := Nat.two_pow_pos k
  rw [pwB_iff this, Nat.log2_two_pow]
theorem takF_le {c : Cfg} {n : Int} (h1 : 1 ≤ c.rh) (h2 : c.den ≤ 2 * c.rh) (h3 : 0 ≤ n) : ∀ (k : Nat) (size m : Int), size ≤ m → 4 * n ≤ m → takF c n k size ≤ m := by
  intro k
  induction k with
  | zero => intro size m hs hm; rw [takF]; exact hs
  | succ k ih =>
    intro size m hs hm
    rw [takF]
    split
    case isTrue h =>
      refine ih _ _ ?_ hm
      have h4 : n * c.den ≤ n * (2 * c.rh) := Int.mul_le_mul_of_nonneg_left h2 h3
      have h5 : c.rh * size < c.rh * (2 * n) := by
        have : n * (2 * c.rh) = c.rh * (2 * n) := by rw [Int.mul_comm n, Int.mul_assoc, Int.mul_left_comm]
        omega
      have := Int.lt_of_mul_lt_mul_left h5 (by omega)
      omega
    · exact hs
end

section
open Go.RowKit

def sumC (cs : List Int) (a b : Nat) : Int := ((List.range' a (b - a)).map fun i => cs.getD i 0).sum
theorem sumC_nil (cs : List Int) (a : Nat) : sumC cs a a = 0 := by simp [sumC]
theorem sumC_none (cs : List Int) {a b : Nat} (h : b ≤ a) : sumC cs a b = 0 := by rw [sumC, show b - a = 0 by omega]; rfl
theorem sum_snoc (l : List Int) (x : Int) : (l ++ [x]).sum = l.sum + x := by
  induction l with
  | nil => simp
  | cons y l ih => simp only [List.cons_append, List.sum_cons, ih]; omega
theorem sumC_succ (cs : List Int) {a b : Nat} (h : a ≤ b) : sumC cs a (b + 1) = sumC cs a b + cs.getD b 0 := by
  rw [sumC, sumC, show b + 1 - a = (b - a) + 1 by omega, List.range'_1_concat, List.map_append, List.map_singleton, sum_snoc, show a + (b - a) = b by omega]
def CntB (cs : List Int) (S : Nat) : Prop := ∀ i, 0 ≤ cs.getD i 0 ∧ cs.getD i 0 ≤ S
theorem sumC_bd {cs : List Int} {S : Nat} (h : CntB cs S) (a : Nat) : ∀ d, 0 ≤ sumC cs a (a + d) ∧ sumC cs a (a + d) ≤ (S * d : Nat) := by
  intro d
  induction d with
  | zero => rw [Nat.add_zero, sumC_nil]; simp
  | succ d ih =>
    rw [← Nat.add_assoc, sumC_succ cs (by omega), Nat.mul_succ]
    have := h (a + d)
    push_cast
    push_cast at ih
    omega
theorem sumC_bd2 {cs : List Int} {S : Nat} (h : CntB cs S) (a b : Nat) : 0 ≤ sumC cs a b ∧ sumC cs a b ≤ (S * (b - a) : Nat) := by
  rcases Nat.le_total a b with e | e
  · have := sumC_bd h a (b - a)
    rwa [show a + (b - a) = b by omega] at this
  · rw [sumC_none cs e]; exact ⟨Int.le_refl _, by omega⟩
theorem cntB_bd {s : SlC} {S : Nat} (hs : s.seg = S) (h : cntB s = true) : CntB s.cs S := by
  intro i
  rcases Nat.lt_or_ge i s.cs.length with hi | hi
  · have := List.all_eq_true.1 h i (List.mem_range.2 hi)
    rw [beq_iff_eq, hs, Int.toNat_natCast] at this
    have h2 := cntW_le s.ws (i * S) ((i + 1) * S)
    rw [show (i + 1) * S - i * S = S by rw [Nat.succ_mul]; omega] at h2
    rw [this]
    omega
  · rw [List.getD_eq_getElem?_getD, List.getElem?_eq_none hi]
    simp
def winB (c : Cfg) (s : SlC) (high h i : Nat) : Bool := fulB c high h (sumC s.cs (i * 2 ^ h) ((i + 1) * 2 ^ h)) && sprB c s.ks.length high h (sumC s.cs (i * 2 ^ h) ((i + 1) * 2 ^ h))
def rowB (c : Cfg) (s : SlC) (high h : Nat) : Bool := (List.range (s.cs.length / 2 ^ h)).all fun i => winB c s high h i
def denB (c : Cfg) (s : SlC) (high : Nat) : Bool := (List.range (high + 1)).all fun h => rowB c s high h
def gapHead (c : Cfg) (s : SlC) : Bool := slMay s && decide (s.seg = c.seg) && powB s.ks.length c.least (taks c c.most) && decide (sumC s.cs 0 s.cs.length ≤ c.most)
def gapMay (c : Cfg) (s : SlC) : Bool := gapHead c s && denB c s (htC c s.ks.length)
def gapE (c : Cfg) (s : SlC) : Int := if cfMay c = true then (if gapMay c s = true then 0 else 8) else 50

end
end Go.Proofs.YtjhpblejlchhjaaGreat

/- Merged: F64, FracW. -/
import Derived.Laws.ComplexArith
import Derived.Test.YtjhpblejlchhjaaGreatConfPl
import Derived.Test.YtjhpblejlchhjaaGreatBitFits
import Derived.Test.YtjhpblejlchhjaaGreatMLS
import Derived.Test.YtjhpblejlchhjaaGreatOccAll
namespace Go.Proofs.YtjhpblejlchhjaaGreat
set_option maxRecDepth 100000
set_option maxHeartbeats 4000000
set_option linter.unusedVariables false
set_option linter.unusedSimpArgs false
section
open Go

def Rep (d : Ieee.Datum) (n : Int) : Prop := ∃ s m i b, d = .number s m i ∧ b ≤ i ∧ b ≤ 0 ∧ Ieee.signed s m (i - b).toNat = n * 2 ^ (-b).toNat
theorem sg_mul (s : Bool) (m u v : Nat) : Ieee.signed s m (u + v) = Ieee.signed s m u * 2 ^ v := by
  unfold Ieee.signed
  rw [Nat.shiftLeft_eq, Nat.shiftLeft_eq, Nat.pow_add, ← Nat.mul_assoc]
  cases s <;> simp [Int.neg_mul]
theorem sg_xor (s t : Bool) (m n u v : Nat) : Ieee.signed (s ^^ t) (m * n) (u + v) = Ieee.signed s m u * Ieee.signed t n v := by
  unfold Ieee.signed
  rw [Nat.shiftLeft_eq, Nat.shiftLeft_eq, Nat.shiftLeft_eq, Nat.pow_add]
  have e : m * n * (2 ^ u * 2 ^ v) = (m * 2 ^ u) * (n * 2 ^ v) := by
    rw [Nat.mul_assoc, Nat.mul_assoc, ← Nat.mul_assoc n, Nat.mul_comm n (2 ^ u), Nat.mul_assoc]
  rw [e]
  cases s <;> cases t <;> simp [Int.neg_mul, Int.mul_neg]
theorem two_ne (k : Nat) : (2 : Int) ^ k ≠ 0 := by
  have : (2 : Int) ^ k = ((2 ^ k : Nat) : Int) := by push_cast; rfl
  rw [this]
  have := Nat.two_pow_pos k
  omega
theorem rep_at {s : Bool} {m : Nat} {i : Int} {n : Int} (h : Rep (.number s m i) n) {b : Int} (h1 : b ≤ i) (h2 : b ≤ 0) : Ieee.signed s m (i - b).toNat = n * 2 ^ (-b).toNat := by
  obtain ⟨s', m', i', b', e, h3, h4, h5⟩ := h
  cases e
  rcases Int.le_total b b' with hb | hb
  · obtain ⟨k, hk⟩ : ∃ k : Nat, b' - b = k := ⟨(b' - b).toNat, by omega⟩
    rw [show (i - b).toNat = (i - b').toNat + k by omega, sg_mul, h5, show (-b).toNat = (-b').toNat + k by omega, Int.pow_add, Int.mul_assoc]
  · obtain ⟨k, hk⟩ : ∃ k : Nat, b - b' = k := ⟨(b - b').toNat, by omega⟩
    rw [show (i - b').toNat = (i - b).toNat + k by omega, sg_mul, show (-b').toNat = (-b).toNat + k by omega, Int.pow_add, ← Int.mul_assoc] at h5
    exact Int.eq_of_mul_eq_mul_right (two_ne k) h5
theorem rep_num {d : Ieee.Datum} {n : Int} (h : Rep d n) : ∃ s m i, d = .number s m i := by
  obtain ⟨s, m, i, b, e, -⟩ := h
  exact ⟨s, m, i, e⟩
theorem rep_product {d d' : Ieee.Datum} {n n' : Int} (h : Rep d n) (h' : Rep d' n') : ∃ r, d.product d' = some r ∧ Rep r (n * n') := by
  obtain ⟨s, m, i, b, rfl, h1, h2, h3⟩ := h
  obtain ⟨t, k, j, c, rfl, g1, g2, g3⟩ := h'
  refine ⟨_, rfl, s ^^ t, m * k, i + j, b + c, rfl, by omega, by omega, ?_⟩
  rw [show (i + j - (b + c)).toNat = (i - b).toNat + (j - c).toNat by omega, sg_xor, h3, g3, show (-(b + c)).toNat = (-b).toNat + (-c).toNat by omega, Int.pow_add]
  rw [Int.mul_assoc, Int.mul_assoc, ← Int.mul_assoc _ n', Int.mul_comm (2 ^ (-b).toNat) n', Int.mul_assoc]
theorem sg_abs (x : Int) (z : Bool) (u : Nat) : Ieee.signed (if x = 0 then z else x < 0) x.natAbs u = x * 2 ^ u := by
  unfold Ieee.signed
  rw [Nat.shiftLeft_eq]
  have e : ((x.natAbs * 2 ^ u : Nat) : Int) = (x.natAbs : Int) * 2 ^ u := by push_cast; rfl
  rw [e]
  by_cases h0 : x = 0
  · subst h0; cases z <;> simp
  · rw [if_neg h0]
    by_cases h : x < 0
    · simp only [h, decide_true, if_true]
      rw [← Int.neg_mul]
      congr 1
      omega
    · simp only [h, decide_false, Bool.false_eq_true, if_false]
      congr 1
      omega
theorem rep_sum {d d' : Ieee.Datum} {n n' : Int} (h : Rep d n) (h' : Rep d' n') : ∃ r, d.sum d' = some r ∧ Rep r (n + n') := by
  obtain ⟨s, m, i, rfl⟩ := rep_num h
  obtain ⟨t, k, j, rfl⟩ := rep_num h'
  refine ⟨_, rfl, ?_⟩
  obtain ⟨b, hb⟩ : ∃ b, min (min i j) 0 = b := ⟨_, rfl⟩
  have r1 := rep_at h (b := b) (by omega) (by omega)
  have r2 := rep_at h' (b := b) (by omega) (by omega)
  refine ⟨_, _, _, b, rfl, by omega, by omega, ?_⟩
  rw [sg_abs]
  obtain ⟨c, hc⟩ : ∃ c : Nat, min i j - b = c := ⟨(min i j - b).toNat, by omega⟩
  rw [Int.add_mul, show (min i j - b).toNat = c by omega, ← sg_mul, ← sg_mul, show (i - min i j).toNat + c = (i - b).toNat by omega, show (j - min i j).toNat + c = (j - b).toNat by omega, r1, r2, Int.add_mul]
theorem rep_opposite {d : Ieee.Datum} {n : Int} (h : Rep d n) : Rep d.opposite (-n) := by
  obtain ⟨s, m, i, b, rfl, h1, h2, h3⟩ := h
  refine ⟨!s, m, i, b, rfl, h1, h2, ?_⟩
  rw [Int.neg_mul, ← h3]
  unfold Ieee.signed
  cases s <;> simp
theorem rep_order {d d' : Ieee.Datum} {n n' : Int} (h : Rep d n) (h' : Rep d' n') : d.order d' = some (compare n n') := by
  obtain ⟨s, m, i, rfl⟩ := rep_num h
  obtain ⟨t, k, j, rfl⟩ := rep_num h'
  obtain ⟨b, hb⟩ : ∃ b, min (min i j) 0 = b := ⟨_, rfl⟩
  have r1 := rep_at h (b := b) (by omega) (by omega)
  have r2 := rep_at h' (b := b) (by omega) (by omega)
  obtain ⟨c, hc⟩ : ∃ c : Nat, min i j - b = c := ⟨(min i j - b).toNat, by omega⟩
  rw [show (i - b).toNat = (i - min i j).toNat + c by omega, sg_mul] at r1
  rw [show (j - b).toNat = (j - min i j).toNat + c by omega, sg_mul] at r2
  unfold Ieee.Datum.order
  simp only [Option.some.injEq]
  generalize Ieee.signed s m (i - min i j).toNat = x at *
  generalize Ieee.signed t k (j - min i j).toNat = y at *
  have p1 : (0 : Int) < 2 ^ c := by
    have : (2 : Int) ^ c = ((2 ^ c : Nat) : Int) := by push_cast; rfl
    rw [this]
    have := Nat.two_pow_pos c
    omega
  have p2 : (0 : Int) < 2 ^ (-b).toNat := by
    have : (2 : Int) ^ (-b).toNat = ((2 ^ (-b).toNat : Nat) : Int) := by push_cast; rfl
    rw [this]
    have := Nat.two_pow_pos (-b).toNat
    omega
  have key : x < y ↔ n < n' := by
    constructor
    · intro hlt
      have := Int.mul_lt_mul_of_pos_right hlt p1
      rw [r1, r2] at this
      exact Int.lt_of_mul_lt_mul_right this (Int.le_of_lt p2)
    · intro hlt
      have := Int.mul_lt_mul_of_pos_right hlt p2
      rw [← r1, ← r2] at this
      exact Int.lt_of_mul_lt_mul_right this (Int.le_of_lt p1)
  have key2 : x = y ↔ n = n' := by
    constructor
    · rintro rfl
      rw [r1] at r2
      exact Int.eq_of_mul_eq_mul_right (Int.ne_of_gt p2) r2
    · rintro rfl
      rw [← r2] at r1
      exact Int.eq_of_mul_eq_mul_right (Int.ne_of_gt p1) r1
  simp only [compare, compareOfLessAndEq, key, key2]

theorem log2_mul_two (m : Nat) (hm : 0 < m) (u : Nat) : (m * 2 ^ u).log2 = m.log2 + u := by
  have hp := Nat.two_pow_pos u
  have h1 : 2 ^ m.log2 ≤ m := (Nat.le_log2 (by omega)).1 (Nat.le_refl _)
  have h2 : m < 2 ^ (m.log2 + 1) := (Nat.log2_lt (by omega)).1 (Nat.lt_succ_self _)
  have hne : m * 2 ^ u ≠ 0 := Nat.mul_ne_zero (by omega) (by omega)
  refine (Nat.log2_eq_iff hne).2 ⟨?_, ?_⟩
  · rw [Nat.pow_add]; exact Nat.mul_le_mul_right _ h1
  · rw [show m.log2 + u + 1 = (m.log2 + 1) + u by omega, Nat.pow_add]
    exact (Nat.mul_lt_mul_right hp).2 h2
theorem read_at (w r : Nat) (neg : Bool) (h1 : (w / Ieee.double.signWeight % 2 == 1) = neg) (h2 : w % Ieee.double.signWeight = r) (h3 : ¬ r < Ieee.double.binade) (h4 : r < Ieee.double.infRung) :
    Ieee.double.read w = .number neg (Ieee.double.binade + r % Ieee.double.binade) (Ieee.double.leastPlace + (r / Ieee.double.binade - 1 : Nat)) := by
  unfold Ieee.Format.read
  simp only [h1, h2, if_neg h3, if_pos h4]
theorem read_rung {s : Bool} {t K : Nat} (ht : t ≤ 52) (h1 : 4503599627370496 ≤ K) (h2 : K < 9007199254740992) :
    Ieee.double.read (Ieee.double.word s (min ((1074 - t) * 4503599627370496 + K) Ieee.double.infRung)) = .number s K (-(t : Int)) := by
  have e1 : Ieee.double.infRung = 9218868437227405312 := by decide
  have e2 : Ieee.double.signWeight = 9223372036854775808 := by decide
  have e3 : Ieee.double.binade = 4503599627370496 := by decide
  have e4 : Ieee.double.leastPlace = -1074 := by decide
  obtain ⟨r, hr⟩ : ∃ r, (1074 - t) * 4503599627370496 + K = r := ⟨_, rfl⟩
  have hm : min r Ieee.double.infRung = r := Nat.min_eq_left (by rw [e1]; omega)
  rw [hr, hm]
  have a1 : Ieee.double.binade + r % Ieee.double.binade = K := by rw [e3]; omega
  have a2 : Ieee.double.leastPlace + ((r / Ieee.double.binade - 1 : Nat) : Int) = -(t : Int) := by rw [e3, e4]; omega
  have h3 : ¬ r < Ieee.double.binade := by rw [e3]; omega
  have h4 : r < Ieee.double.infRung := by rw [e1]; omega
  have hw : Ieee.double.word s r = if s then 9223372036854775808 + r else r := by unfold Ieee.Format.word; rw [e2]
  rw [hw]
  cases s with
  | true =>
    rw [if_pos rfl, read_at _ r true (by rw [e2, beq_iff_eq]; omega) (by rw [e2]; omega) h3 h4, a1, a2]
  | false =>
    rw [if_neg (by decide), read_at _ r false (by rw [e2, beq_eq_false_iff_ne]; omega) (by rw [e2]; omega) h3 h4, a1, a2]
theorem cut_none (s : Bool) (n : Nat) : Ieee.Toward.cut .even s n 0 = n := by
  simp [Ieee.Toward.cut, Nat.mod_one]
theorem cut_exact (s : Bool) (n d : Nat) : Ieee.Toward.cut .even s (n * 2 ^ d) d = n := by
  have hp := Nat.two_pow_pos d
  by_cases h0 : n = 0
  · subst h0
    simp [Ieee.Toward.cut]
  · have hg : (1 <<< min d ((n * 2 ^ d).log2 + 2)) = 2 ^ d := by
      rw [log2_mul_two n (by omega), Nat.shiftLeft_eq, Nat.one_mul, Nat.min_eq_left (by omega)]
    unfold Ieee.Toward.cut
    simp only [hg, Nat.mul_div_cancel _ hp, Nat.mul_mod_left]
    simp
theorem rep_write {d : Ieee.Datum} {n : Int} (h : Rep d n) (hn : n.natAbs < 9007199254740992) : Rep (Ieee.double.read (Ieee.double.write d)) n := by
  obtain ⟨s, m, e, rfl⟩ := rep_num h
  obtain ⟨b, hb⟩ : ∃ b, min e 0 = b := ⟨_, rfl⟩
  have r := rep_at h (b := b) (by omega) (by omega)
  obtain ⟨u, hu⟩ : ∃ u, (e - b).toNat = u := ⟨_, rfl⟩
  obtain ⟨v, hv⟩ : ∃ v, (-b).toNat = v := ⟨_, rfl⟩
  rw [hu, hv] at r
  have huv : u = 0 ∨ v = 0 := by omega
  have hev : e = (u : Int) - v := by omega
  -- the sizes alone
  have ra : m * 2 ^ u = n.natAbs * 2 ^ v := by
    have := congrArg Int.natAbs r
    rw [Int.natAbs_mul] at this
    have e2 : ((2 : Int) ^ v).natAbs = 2 ^ v := by
      have : (2 : Int) ^ v = ((2 ^ v : Nat) : Int) := by push_cast; rfl
      rw [this]; rfl
    rw [e2] at this
    rw [← this]
    unfold Ieee.signed
    rw [Nat.shiftLeft_eq]
    cases s
    · rfl
    · simp only [if_true]
      omega
  have rs : s = true → n ≤ 0 := fun hs => by
    subst hs
    apply Int.not_lt.1
    intro hpos
    unfold Ieee.signed at r
    simp only [if_true] at r
    have : (0 : Int) < n * 2 ^ v := Int.mul_pos hpos (by
      have : (2 : Int) ^ v = ((2 ^ v : Nat) : Int) := by push_cast; rfl
      rw [this]; have := Nat.two_pow_pos v; omega)
    omega
  have rs2 : s = false → 0 ≤ n := fun hs => by
    subst hs
    apply Int.not_lt.1
    intro hneg
    unfold Ieee.signed at r
    simp only [Bool.false_eq_true, if_false] at r
    have : n * 2 ^ v < 0 := Int.mul_neg_of_neg_of_pos hneg (by
      have : (2 : Int) ^ v = ((2 ^ v : Nat) : Int) := by push_cast; rfl
      rw [this]; have := Nat.two_pow_pos v; omega)
    omega
  have hsn : ∀ K : Nat, ∀ t : Nat, K = n.natAbs * 2 ^ t → Rep (.number s K (-(t : Int))) n := fun K t hK => by
    refine ⟨s, K, _, -(t : Int), rfl, Int.le_refl _, by omega, ?_⟩
    rw [Int.sub_self, Int.neg_neg]
    unfold Ieee.signed
    simp only [Int.toNat_zero, Nat.shiftLeft_zero, Int.toNat_natCast]
    have e2 : ((n.natAbs * 2 ^ t : Nat) : Int) = (n.natAbs : Int) * 2 ^ t := by push_cast; rfl
    rw [hK, e2]
    cases s with
    | true =>
      have := rs rfl
      simp only [if_true]
      rw [← Int.neg_mul]
      congr 1
      omega
    | false =>
      have := rs2 rfl
      simp only [Bool.false_eq_true, if_false]
      congr 1
      omega
  unfold Ieee.Format.write Ieee.Format.nearest
  simp only
  by_cases hm : m = 0
  · rw [if_pos hm]
    have hn0 : n = 0 := by
      rw [hm, Nat.zero_mul] at ra
      have := Nat.two_pow_pos v
      have : n.natAbs = 0 := by
        rcases Nat.mul_eq_zero.1 ra.symm with h | h <;> omega
      omega
    subst hn0
    refine ⟨s, 0, -1074, -1074, ?_, Int.le_refl _, by decide, ?_⟩
    · cases s <;> decide
    · rw [Int.zero_mul]; unfold Ieee.signed; rw [Nat.zero_shiftLeft]; cases s <;> rfl
  · rw [if_neg hm]
    have hN : 0 < n.natAbs := by
      apply Nat.pos_of_ne_zero
      intro h0
      rw [h0, Nat.zero_mul] at ra
      have := Nat.two_pow_pos u
      rcases Nat.mul_eq_zero.1 ra with h | h <;> omega
    have hl := congrArg Nat.log2 ra
    rw [log2_mul_two m (by omega), log2_mul_two n.natAbs hN] at hl
    have hN52 : n.natAbs.log2 ≤ 52 := by
      have : n.natAbs.log2 < 53 := (Nat.log2_lt (by omega)).2 (by simpa using hn)
      omega
    obtain ⟨t, ht⟩ : ∃ t : Nat, 52 - n.natAbs.log2 = t := ⟨_, rfl⟩
    have hlast : max (e + (m.log2 : Int) - (Ieee.double.fractionBits : Nat)) Ieee.double.leastPlace = -(t : Int) := by
      have e4 : Ieee.double.leastPlace = -1074 := by decide
      have e5 : ((Ieee.double.fractionBits : Nat) : Int) = 52 := by decide
      rw [e4, e5]
      omega
    rw [hlast]
    have hkept : Ieee.Toward.cut .even s (m <<< (e - -(t : Int)).toNat) (-(t : Int) - e).toNat = n.natAbs * 2 ^ t := by
      rw [Nat.shiftLeft_eq]
      by_cases hc : -(t : Int) ≤ e
      · rw [show (-(t : Int) - e).toNat = 0 by omega, cut_none]
        rcases huv with h | h
        · subst h
          rw [Nat.pow_zero, Nat.mul_one] at ra
          rw [ra, Nat.mul_assoc, ← Nat.pow_add]
          congr 2
          omega
        · subst h
          rw [Nat.pow_zero, Nat.mul_one] at ra
          rw [← ra, Nat.mul_assoc, ← Nat.pow_add]
          congr 2
          omega
      · rw [show (e - -(t : Int)).toNat = 0 by omega, Nat.pow_zero, Nat.mul_one]
        obtain ⟨dp, hdp⟩ : ∃ dp, (-(t : Int) - e).toNat = dp := ⟨_, rfl⟩
        rw [hdp]
        have hu0 : u = 0 := by omega
        subst hu0
        rw [Nat.pow_zero, Nat.mul_one] at ra
        have em : m = (n.natAbs * 2 ^ t) * 2 ^ dp := by
          rw [ra, Nat.mul_assoc, ← Nat.pow_add]
          congr 2
          omega
        rw [em]
        exact cut_exact s _ dp
    rw [hkept]
    have hK1 : 4503599627370496 ≤ n.natAbs * 2 ^ t ∧ n.natAbs * 2 ^ t < 9007199254740992 := by
      have h1 : 2 ^ n.natAbs.log2 ≤ n.natAbs := (Nat.le_log2 (by omega)).1 (Nat.le_refl _)
      have h2 : n.natAbs < 2 ^ (n.natAbs.log2 + 1) := (Nat.log2_lt (by omega)).1 (Nat.lt_succ_self _)
      have hp := Nat.two_pow_pos t
      constructor
      · have := Nat.mul_le_mul_right (2 ^ t) h1
        rw [← Nat.pow_add, show n.natAbs.log2 + t = 52 by omega] at this
        exact this
      · have := (Nat.mul_lt_mul_right hp).2 h2
        rw [← Nat.pow_add, show n.natAbs.log2 + 1 + t = 53 by omega] at this
        exact this
    have e3 : Ieee.double.binade = 4503599627370496 := by decide
    have e4 : (-(t : Int) - Ieee.double.leastPlace).toNat = 1074 - t := by
      have e4 : Ieee.double.leastPlace = -1074 := by decide
      rw [e4]; omega
    rw [e3, e4, read_rung (by omega) hK1.1 hK1.2]
    exact hsn _ t rfl

theorem read_neg (x : Nat) : Ieee.double.read (x ^^^ 2 ^ 63) = (Ieee.double.read x).opposite := by
  have e2 : Ieee.double.signWeight = 2 ^ 63 := by decide
  have h1 : ((x ^^^ 2 ^ 63) / Ieee.double.signWeight % 2 == 1) = !(x / Ieee.double.signWeight % 2 == 1) := by
    rw [e2]
    have t : ∀ y : Nat, (y / 2 ^ 63 % 2 == 1) = y.testBit 63 := fun y => by
      rw [Nat.testBit_eq_decide_div_mod_eq]
      rfl
    rw [t, t, Nat.testBit_xor, Nat.testBit_two_pow_self]
    simp
  have h2 : (x ^^^ 2 ^ 63) % Ieee.double.signWeight = x % Ieee.double.signWeight := by
    rw [e2]
    apply Nat.eq_of_testBit_eq
    intro i
    rw [Nat.testBit_mod_two_pow, Nat.testBit_mod_two_pow, Nat.testBit_xor, Nat.testBit_two_pow]
    by_cases h : i < 63
    · have : ¬ 63 = i := by omega
      simp [this]
    · simp [h]
  unfold Ieee.Format.read
  simp only [h1, h2]
  split
  · rfl
  · split
    · rfl
    · split <;> rfl
theorem rep_neg {x : Nat} {n : Int} (h : Rep (Ieee.double.read x) n) : Rep (Ieee.double.read (x ^^^ 2 ^ 63)) (-n) := by
  rw [read_neg]
  exact rep_opposite h
theorem rep_of (n : Int) (hn : n.natAbs < 9007199254740992) : Rep (Ieee.double.read (floatOfInt .f64 n)) n := by
  refine rep_write (d := .number (n < 0) n.natAbs 0) ⟨_, _, 0, 0, rfl, Int.le_refl _, Int.le_refl _, ?_⟩ hn
  unfold Ieee.signed
  by_cases h : n < 0
  · simp [h]; omega
  · simp [h]; omega
theorem f64_mul {x y : Nat} {n m : Int} (hx : Rep (Ieee.double.read x) n) (hy : Rep (Ieee.double.read y) m) (h : (n * m).natAbs < 9007199254740992) : ∃ r, floatBits .mul .f64 x y = some r ∧ Rep (Ieee.double.read r) (n * m) := by
  obtain ⟨d, h1, h2⟩ := rep_product hx hy
  exact ⟨_, by show ((Ieee.double.read x).product (Ieee.double.read y)).map _ = _; rw [h1]; rfl, rep_write h2 h⟩
theorem f64_add {x y : Nat} {n m : Int} (hx : Rep (Ieee.double.read x) n) (hy : Rep (Ieee.double.read y) m) (h : (n + m).natAbs < 9007199254740992) : ∃ r, floatBits .add .f64 x y = some r ∧ Rep (Ieee.double.read r) (n + m) := by
  obtain ⟨d, h1, h2⟩ := rep_sum hx hy
  exact ⟨_, by show ((Ieee.double.read x).sum (Ieee.double.read y)).map _ = _; rw [h1]; rfl, rep_write h2 h⟩
theorem f64_sub {x y : Nat} {n m : Int} (hx : Rep (Ieee.double.read x) n) (hy : Rep (Ieee.double.read y) m) (h : (n - m).natAbs < 9007199254740992) : ∃ r, floatBits .sub .f64 x y = some r ∧ Rep (Ieee.double.read r) (n - m) := by
  obtain ⟨d, h1, h2⟩ := rep_sum hx (rep_opposite hy)
  rw [← Int.sub_eq_add_neg] at h2
  exact ⟨_, by show ((Ieee.double.read x).sum (Ieee.double.read y).opposite).map _ = _; rw [h1]; rfl, rep_write h2 h⟩
theorem abs_mul_lt {a b : Int} (ha : a.natAbs < 67108864) (hb : b.natAbs < 67108864) : (a * b).natAbs < 4503599627370496 := by
  rw [Int.natAbs_mul]
  have h1 : a.natAbs * b.natAbs ≤ 67108863 * 67108863 := Nat.mul_le_mul (by omega) (by omega)
  omega
theorem cross_bits {a b c d : Nat} {A B C D : Int} (ha : Rep (Ieee.double.read a) A) (hb : Rep (Ieee.double.read b) B) (hc : Rep (Ieee.double.read c) C) (hd : Rep (Ieee.double.read d) D)
    (bA : A.natAbs < 67108864) (bB : B.natAbs < 67108864) (bC : C.natAbs < 67108864) (bD : D.natAbs < 67108864) :
    ∃ re im, cMulBits a b c (d ^^^ 2 ^ 63) = some (re, im) ∧ Rep (Ieee.double.read im) (B * C - A * D) := by
  have hd' := rep_neg hd
  have bD' : (-D).natAbs < 67108864 := by omega
  have p1 := abs_mul_lt bA bC
  have p2 := abs_mul_lt bB bD'
  have p3 := abs_mul_lt bA bD'
  have p4 := abs_mul_lt bB bC
  obtain ⟨ac, e1, r1⟩ := f64_mul ha hc (by omega)
  obtain ⟨bd, e2, r2⟩ := f64_mul hb hd' (by omega)
  obtain ⟨re, e3, r3⟩ := f64_sub r1 r2 (by omega)
  obtain ⟨ad, e4, r4⟩ := f64_mul ha hd' (by omega)
  obtain ⟨bc, e5, r5⟩ := f64_mul hb hc (by omega)
  obtain ⟨im, e6, r6⟩ := f64_add r4 r5 (by omega)
  refine ⟨re, im, ?_, ?_⟩
  · unfold cMulBits
    simp only [e1, e2, e3, e4, e5, e6, Option.bind_some]
  · rw [show B * C - A * D = A * -D + B * C by rw [Int.mul_neg]; omega]
    exact r6
theorem order_zero {x : Nat} {n : Int} (h : Rep (Ieee.double.read x) n) : Ieee.double.order x 0 = some (compare n 0) := by
  have h0 : Rep (Ieee.double.read 0) 0 := by
    refine ⟨false, 0, -1074, -1074, by decide, Int.le_refl _, by decide, ?_⟩
    rw [Int.zero_mul]; unfold Ieee.signed; rw [Nat.zero_shiftLeft]; rfl
  exact rep_order h h0
end

section
open Go.RowKit

theorem row_alloc (k : IntKind) (w : World) (xs : List Int) (t : TypeId) : IsRow k (w.alloc (.cells (xs.map (Value.int k)).toArray t)) (some ⟨w.heap.size, 0, none⟩) xs := by
  intro i hi
  refine ⟨w.heap.size, 0, rfl, by simp, fun j hj => ?_⟩
  rw [World.cell?_alloc_at _ _ _ _ rfl, Nat.zero_add]
  simp [List.getD_eq_getElem?_getD, hj]
theorem small_ok (xs : List Int) (ca : Nat) (hl : xs.length ≤ 100) (p : Option Addr) (w : World) (hw : IsRow .i64 w p xs) (hs : ∀ i, -67108864 < xs.getD i 0 ∧ xs.getD i 0 < 67108864) :
    Calls Tryz.prog 113 #[.slice p xs.length ca] w fun e w' => e = .returned (.bool true) ∧ w = w' := by
  have HW := Lib.hid hw
  have HS := Lib.hid hs
  obtain ⟨m, hm⟩ : ∃ m, xs.length = m := ⟨_, rfl⟩
  have HM := Lib.hid hm
  rw [hm] at hl ⊢
  clear hw hs hm
  go_enter Tryz.func113, Tryz.ntmps113
  go_wp2
  go_loopg [7] m (fun gk iv wr => ∃ i : Nat, i + gk = m ∧ iv = .int .i64 i ∧ wr = w)
  case atStart => exact ⟨0, by omega, rfl, rfl⟩
  case round =>
    obtain ⟨i, hi, rfl, rfl⟩ := hrel
    by_cases hlt : i < m
    · obtain ⟨b, off, x, rfl, hx, hc, -⟩ := HW.out.get (i := i) (by rw [HM.out]; exact hlt)
      have hb := HS.out i
      rw [hx.out] at hb
      obtain ⟨hb1, hb2⟩ := hb
      clear hx
      go_wp2
      go_roundg (gk - 1)
      case measure => omega
      case rel => exact ⟨i + 1, by omega, by go_num, rfl⟩
    · go_wp2
      go_ret
      exact ⟨rfl, rfl⟩
def IsBools (w : World) (b : Nat) (l : List Bool) : Prop := ∀ i, i < l.length → w.cell? ⟨b, i, none⟩ = some (.bool (l.getD i false))
theorem bools_alloc (w : World) (l : List Bool) (t : TypeId) : IsBools (w.alloc (.cells (l.map Value.bool).toArray t)) w.heap.size l := by
  intro i hi
  rw [World.cell?_alloc_at _ _ _ _ rfl]
  simp [List.getD_eq_getElem?_getD, hi]
theorem all_ok (l : List Bool) (ca b : Nat) (hl : l.length ≤ 100) (w : World) (hw : IsBools w b l) :
    Calls Tryz.prog 71 #[.slice (some ⟨b, 0, none⟩) l.length ca] w fun e w' => e = .returned (.bool (l.all id)) ∧ w = w' := by
  have HW := Lib.hid hw
  obtain ⟨m, hm⟩ : ∃ m, l.length = m := ⟨_, rfl⟩
  have HM := Lib.hid hm
  obtain ⟨z, hz⟩ : ∃ z, l.all id = z := ⟨_, rfl⟩
  have HZ := Lib.hid hz
  rw [hm] at hl ⊢
  rw [hz]
  clear hw hm hz
  go_enter Tryz.func71, Tryz.ntmps71
  go_wp2
  go_loopg [7] m (fun gk iv wr => ∃ i : Nat, i + gk = m ∧ iv = .int .i64 i ∧ wr = w ∧ Hid (∀ j, j < i → l.getD j false = true))
  case atStart => exact ⟨0, by omega, rfl, rfl, Lib.hid fun j hj => by omega⟩
  case round =>
    obtain ⟨i, hi, rfl, rfl, HF⟩ := hrel
    by_cases hlt : i < m
    · have hc := HW.out i (by rw [HM.out]; exact hlt)
      cases hb : l.getD i false with
      | true =>
        rw [hb] at hc
        have HB := Lib.hid hb
        clear hb
        go_wp2
        go_roundg (gk - 1)
        case measure => omega
        case rel =>
          refine ⟨i + 1, by omega, by go_num, rfl, Lib.hid fun j hj => ?_⟩
          by_cases e : j = i
          · rw [e]; exact HB.out
          · exact HF.out j (by omega)
      | false =>
        rw [hb] at hc
        have hzf : z = false := by
          rw [← HZ.out, List.all_eq_false]
          have hlm : i < l.length := by rw [HM.out]; exact hlt
          refine ⟨l[i], List.getElem_mem _, ?_⟩
          rw [List.getD_eq_getElem?_getD, List.getElem?_eq_getElem hlm, Option.getD_some] at hb
          simp [hb]
        subst hzf
        clear hb
        go_wp2
        go_ret
        exact ⟨rfl, rfl⟩
    · have hzt : z = true := by
        rw [← HZ.out, List.all_eq_true]
        intro x hx
        obtain ⟨j, hj, rfl⟩ := List.mem_iff_getElem.1 hx
        have := HF.out j (by rw [HM.out] at hj; omega)
        rw [List.getD_eq_getElem?_getD, List.getElem?_eq_getElem hj, Option.getD_some] at this
        exact this
      subst hzt
      go_wp2
      go_ret
      exact ⟨rfl, rfl⟩
theorem cpower_ok (n lo hi : Int) (hh : hi ≤ 9223372036854775807) (w : World) :
    Calls Tryz.prog 72 #[.int .i64 n, .int .i64 lo, .int .i64 hi] w fun e w' => e = .returned (.bool (powB n lo hi)) ∧ w = w' := by
  by_cases c1 : lo ≤ n
  · by_cases c2 : n ≤ hi
    · have e : powB n lo hi = pwB n := by simp [powB, c1, c2]
      rw [e]
      have PW := Lib.hid (fun w => Power_ok n (by omega) w)
      generalize pwB n = b at *
      clear e
      go_enter Tryz.func72, Tryz.ntmps72
      go_wp2_with (go_at_call 96; refine (PW.out _).mono ?_; rintro e w' ⟨rfl, rfl⟩)
      go_ret
      exact ⟨rfl, rfl⟩
    · have e : powB n lo hi = false := by simp [powB, c2]
      rw [e]
      clear e
      go_enter Tryz.func72, Tryz.ntmps72
      go_wp2
      go_ret
      exact ⟨rfl, rfl⟩
  · have e : powB n lo hi = false := by simp [powB, c1]
    rw [e]
    clear e
    go_enter Tryz.func72, Tryz.ntmps72
    go_wp2
    go_ret
    exact ⟨rfl, rfl⟩
def SmI (n : Int) : Prop := -67108864 < n ∧ n < 67108864
theorem sm4 {a b c d : Int} (ha : SmI a) (hb : SmI b) (hc : SmI c) (hd : SmI d) : ∀ i, -67108864 < [a, b, c, d].getD i 0 ∧ [a, b, c, d].getD i 0 < 67108864
  | 0 => ha
  | 1 => hb
  | 2 => hc
  | 3 => hd
  | _ + 4 => by simp
theorem Between_ok (a b c d : Int) (ha : SmI a) (hb : SmI b) (hc : SmI c) (hd : SmI d) (h1 : 1 ≤ d) (h2 : 0 ≤ c) (h3 : c ≤ d) (r : Int) (hr : a * d + (b - a) * c = r) (w1 : IntKind.i64.wrap (a * d) = a * d) (w2 : IntKind.i64.wrap ((b - a) * c) = (b - a) * c) (w3 : IntKind.i64.wrap (a * d + (b - a) * c) = a * d + (b - a) * c) (w4 : IntKind.i64.wrap (b - a) = b - a) (w : World) :
    Calls Tryz.prog 106 #[.int .i64 a, .int .i64 b, .int .i64 c, .int .i64 d] w (AnsB w (.tuple #[.int .i64 r, .int .i64 0])) := by
  have SM := Lib.hid (fun W hw => small_ok [a, b, c, d] 4 (by simp) (some ⟨w.heap.size, 0, none⟩) W hw (sm4 ha hb hc hd))
  have HR := Lib.hid hr
  clear ha hb hc hd hr
  go_enter Tryz.func106, Tryz.ntmps106
  go_wp2_with fail
  refine (SM.out _ (row_alloc .i64 w [a, b, c, d] _)).mono ?_
  rintro e w' ⟨rfl, rfl⟩
  go_wp2
  go_ret2
  exact ⟨by rw [← HR.out]; rfl, (Below.refl _ _).alloc (Nat.le_refl _) _⟩
theorem Cross_ok (a b c d : Int) (ha : SmI a) (hb : SmI b) (hc : SmI c) (hd : SmI d) (w : World) :
    Calls Tryz.prog 98 #[.int .i64 a, .int .i64 b, .int .i64 c, .int .i64 d] w (AnsB w (.tuple #[.int .i64 (crossV a b c d), .int .i64 0])) := by
  have ba : a.natAbs < 67108864 := by have := ha.1; have := ha.2; omega
  have bb : b.natAbs < 67108864 := by have := hb.1; have := hb.2; omega
  have bc : c.natAbs < 67108864 := by have := hc.1; have := hc.2; omega
  have bd : d.natAbs < 67108864 := by have := hd.1; have := hd.2; omega
  obtain ⟨re, im, hm, hi⟩ := cross_bits (rep_of a (by omega)) (rep_of b (by omega)) (rep_of c (by omega)) (rep_of d (by omega)) ba bb bc bd
  have ho := order_zero hi
  rw [show (2 : Nat) ^ 63 = 9223372036854775808 by decide] at hm
  have hop := fun t w => run_complex_mul (P := Tryz.prog) w t _ _ _ _ re im hm
  have hng : ∀ x : Nat, Op.unary .neg (.float .f64 x) = pure (.float .f64 (x ^^^ 9223372036854775808)) := fun _ => rfl
  have SM := Lib.hid (fun W hw => small_ok [a, b, c, d] 4 (by simp) (some ⟨w.heap.size, 0, none⟩) W hw (sm4 ha hb hc hd))
  unfold crossV
  generalize b * c - a * d = z at *
  clear ha hb hc hd ba bb bc bd hm hi
  have hgt : ∀ t, binOp .gtr t (.float .f64 im) (.float .f64 0) = pure (.bool (decide (0 < z))) := fun t => by
    rw [binOp_float_cmp_gtr, show FloatKind.f64.format.order im 0 = some (compare z 0) from ho]
    congr 2
    rcases Int.lt_trichotomy z 0 with h | h | h
    · rw [show compare z 0 = .lt by simp [compare, compareOfLessAndEq, h]]; simp; omega
    · subst h; rfl
    · rw [show compare z 0 = .gt by simp [compare, compareOfLessAndEq, show ¬ z < 0 by omega, show ¬ z = 0 by omega]]; simp; omega
  have hlt : ∀ t, binOp .lss t (.float .f64 im) (.float .f64 0) = pure (.bool (decide (z < 0))) := fun t => by
    rw [binOp_float_cmp_lss, show FloatKind.f64.format.order im 0 = some (compare z 0) from ho]
    congr 2
    rcases Int.lt_trichotomy z 0 with h | h | h
    · rw [show compare z 0 = .lt by simp [compare, compareOfLessAndEq, h]]; simp; omega
    · subst h; rfl
    · rw [show compare z 0 = .gt by simp [compare, compareOfLessAndEq, show ¬ z < 0 by omega, show ¬ z = 0 by omega]]; simp; omega
  clear ho
  by_cases c1 : 0 < z
  · rw [if_pos c1]
    go_enter Tryz.func98, Tryz.ntmps98
    go_wp2_with fail
    refine (SM.out _ (row_alloc .i64 w [a, b, c, d] _)).mono ?_
    rintro e w' ⟨rfl, rfl⟩
    go_wp2_with (first | (simp only [hop]) | (simp only [hng]) | (simp only [hgt]) | (simp only [hlt]))
    go_ret2
    exact ⟨rfl, (Below.refl _ _).alloc (Nat.le_refl _) _⟩
  · rw [if_neg c1]
    by_cases c2 : z < 0
    · rw [if_pos c2]
      go_enter Tryz.func98, Tryz.ntmps98
      go_wp2_with fail
      refine (SM.out _ (row_alloc .i64 w [a, b, c, d] _)).mono ?_
      rintro e w' ⟨rfl, rfl⟩
      go_wp2_with (first | (simp only [hop]) | (simp only [hng]) | (simp only [hgt]) | (simp only [hlt]))
      go_ret2
      exact ⟨rfl, (Below.refl _ _).alloc (Nat.le_refl _) _⟩
    · rw [if_neg c2]
      go_enter Tryz.func98, Tryz.ntmps98
      go_wp2_with fail
      refine (SM.out _ (row_alloc .i64 w [a, b, c, d] _)).mono ?_
      rintro e w' ⟨rfl, rfl⟩
      go_wp2_with (first | (simp only [hop]) | (simp only [hng]) | (simp only [hgt]) | (simp only [hlt]))
      go_ret2
      exact ⟨rfl, (Below.refl _ _).alloc (Nat.le_refl _) _⟩
end
end Go.Proofs.YtjhpblejlchhjaaGreat

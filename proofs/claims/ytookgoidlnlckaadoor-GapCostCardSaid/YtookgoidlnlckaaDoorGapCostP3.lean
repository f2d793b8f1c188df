/- Merged: Bits, Slots, OccP, Heap, BitFns, RowIx. -/
import Derived.Test.YtookgoidlnlckaaDoorGapCostP2
import Derived.Laws.Bits64b
import Derived.Test.YtookgoidlnlckaaDoorGapCostP1
import Derived.BigRegion
import Derived.Lib.SliceRun
namespace Go.Proofs.YtookgoidlnlckaaDoor
set_option maxRecDepth 100000
set_option maxHeartbeats 40000000
set_option linter.unusedVariables false
set_option linter.unusedSimpArgs false
section
open Go.RowKit
def bitI (x : Int) (k : Nat) : Bool := x.toNat.testBit k
theorem bitI_nat (n k : Nat) : bitI (n : Int) k = n.testBit k := by rw [bitI, Int.toNat_natCast]
theorem bitI_div {x : Int} (h0 : 0 ≤ x) (k : Nat) : x / 2 ^ k % 2 = if bitI x k then 1 else 0 := by
 obtain ⟨n, rfl⟩ := Int.eq_ofNat_of_zero_le h0
 rw [bitI_nat, Nat.testBit_eq_decide_div_mod_eq]
 have e : ((n : Int) / 2 ^ k) = ((n / 2 ^ k : Nat) : Int) := by push_cast; rfl
 rw [e]
 generalize n / 2 ^ k = m
 by_cases h : m % 2 = 1
 · simp [h]; omega
 · simp [h]; omega
theorem bitI_and {x : Int} (h0 : 0 ≤ x) (h1 : x < 18446744073709551616) (k : Nat) : bits .and .u64 (x / 2 ^ k) 1 = if bitI x k then 1 else 0 := by
 obtain ⟨n, rfl⟩ := Int.eq_ofNat_of_zero_le h0
 have e : ((n : Int) / 2 ^ k) = ((n / 2 ^ k : Nat) : Int) := by push_cast; rfl
 have hd := bitI_div (x := n) xo k
 rw [e] at hd ⊢
 have hl : n / 2 ^ k ≤ n := Nat.div_le_self _ _
 have := bits_and_u64_nat (n / 2 ^ k) 1 xo xo
 rw [show ((1 : Nat) : Int) = 1 from rfl] at this
 rw [this, Nat.and_one_is_mod, ← hd]
 omega
def bitW (ws : List Int) (i : Nat) : Bool := bitI (ws.getD (i / 64) 0) (i % 64)
def U64s (ws : List Int) : Prop := ∀ x ∈ ws, 0 ≤ x ∧ x < 18446744073709551616
theorem U64s.get {ws : List Int} (h : U64s ws) (i : Nat) : 0 ≤ ws.getD i 0 ∧ ws.getD i 0 < 18446744073709551616 := by
 rw [List.getD_eq_getElem?_getD]
 cases hx : ws[i]? with
 | none => simp
 | some x => exact h x (List.mem_of_getElem? hx)
theorem bitI_zero (k : Nat) : bitI 0 k = false := by simp [bitI]
theorem bitI_high {x : Int} (h1 : x < 18446744073709551616) {k : Nat} (hk : 64 ≤ k) : bitI x k = false := by
 rw [bitI]
 apply Nat.testBit_lt_two_pow
 calc x.toNat < 2 ^ 64 := xo
   _ ≤ 2 ^ k := Nat.pow_le_pow_right xo hk
theorem int_eq_of_bits {x y : Int} (hx : 0 ≤ x) (hy : 0 ≤ y) (h : ∀ k, bitI x k = bitI y k) : x = y := by
 have : x.toNat = y.toNat := Nat.eq_of_testBit_eq fun k => h k
 omega
theorem shr_zero {x : Int} (h0 : 0 ≤ x) (k : Nat) : x / 2 ^ k = 0 ↔ ∀ i, k ≤ i → bitI x i = false := by
 obtain ⟨n, rfl⟩ := Int.eq_ofNat_of_zero_le h0
 have e : ((n : Int) / 2 ^ k) = ((n / 2 ^ k : Nat) : Int) := by push_cast; rfl
 rw [e]
 constructor
 · intro h i hi
   have h2 : n / 2 ^ k = 0 := xo
   rw [Nat.div_eq_zero_iff] at h2
   rcases h2 with h2 | h2
   · have := Nat.two_pow_pos k; omega
   · rw [bitI_nat]
     exact Nat.testBit_lt_two_pow (Nat.lt_of_lt_of_le h2 (Nat.pow_le_pow_right xo hi))
 · intro h
   have : n / 2 ^ k = 0 := by
    apply Nat.eq_of_testBit_eq
    intro i
    rw [← Nat.shiftRight_eq_div_pow, Nat.testBit_shiftRight, Nat.zero_testBit, ← bitI_nat]
    exact h _ xo
   omega
def cutLo (x : Int) (k : Nat) : Int := x / 2 ^ k * 2 ^ k
def cutHi (x : Int) (k : Nat) : Int := x * 2 ^ k % 18446744073709551616 / 2 ^ k
theorem cutLo_bd {x : Int} (h0 : 0 ≤ x) (k : Nat) : 0 ≤ cutLo x k ∧ cutLo x k ≤ x := by
 have hp : (0 : Int) < 2 ^ k := Int.pow_pos xo
 refine ⟨Int.mul_nonneg (Int.ediv_nonneg h0 xo) xo, Int.ediv_mul_le _ xo⟩
theorem cutLo_bit {x : Int} (h0 : 0 ≤ x) (k i : Nat) : bitI (cutLo x k) i = (bitI x i && decide (k ≤ i)) := by
 obtain ⟨n, rfl⟩ := Int.eq_ofNat_of_zero_le h0
 have e : cutLo n k = ((n / 2 ^ k * 2 ^ k : Nat) : Int) := by rw [cutLo]; push_cast; rfl
 rw [e, bitI_nat, bitI_nat, Nat.testBit_mul_two_pow]
 by_cases h : k ≤ i
 · simp [h, ← Nat.shiftRight_eq_div_pow, Nat.testBit_shiftRight, show k + (i - k) = i by omega]
 · simp [h]
theorem cutHi_eq {n k : Nat} (hk : k ≤ 64) : cutHi n k = ((n % 2 ^ (64 - k) : Nat) : Int) := by
 have e : cutHi n k = ((n * 2 ^ k % 18446744073709551616 / 2 ^ k : Nat) : Int) := by
  unfold cutHi
  rw [Int.natCast_ediv, Int.natCast_emod, Int.natCast_mul, Int.natCast_pow]
  rfl
 rw [e]
 congr 1
 have h : (18446744073709551616 : Nat) = 2 ^ (64 - k) * 2 ^ k := by rw [← Nat.pow_add, show 64 - k + k = 64 by omega]
 rw [h, Nat.mul_mod_mul_right, Nat.mul_div_cancel _ (Nat.two_pow_pos k)]
theorem cutHi_bit {x : Int} (h0 : 0 ≤ x) {k : Nat} (hk : k ≤ 64) (i : Nat) : bitI (cutHi x k) i = (bitI x i && decide (i < 64 - k)) := by
 obtain ⟨n, rfl⟩ := Int.eq_ofNat_of_zero_le h0
 rw [cutHi_eq hk, bitI_nat, bitI_nat, Nat.testBit_mod_two_pow]
 exact Bool.and_comm _ _
theorem cutHi_bd {x : Int} (h0 : 0 ≤ x) (h1 : x < 18446744073709551616) {k : Nat} (hk : k ≤ 64) : 0 ≤ cutHi x k ∧ cutHi x k < 18446744073709551616 := by
 obtain ⟨n, rfl⟩ := Int.eq_ofNat_of_zero_le h0
 rw [cutHi_eq hk]
 have := Nat.mod_le n (2 ^ (64 - k))
 omega
def popI (x : Int) : Nat := (List.range 64).countP (bitI x)
theorem popI_le (x : Int) : popI x ≤ 64 := by
 have := List.countP_le_length (p := bitI x) (l := List.range 64)
 rw [List.length_range] at this
 exact this
def popN (n x : Nat) : Nat := (List.range (8 * n)).countP x.testBit
def pop8 (b : Nat) : Nat := (List.range 8).countP b.testBit
theorem popN_succ (n x : Nat) : popN (n + 1) x = pop8 (x % 256) + popN n (x / 256) := by
 unfold popN pop8
 rw [show 8 * (n + 1) = 8 + 8 * n by omega, List.range_add, List.countP_append, List.countP_map]
 congr 1
 · apply List.countP_congr
   intro i hi
   rw [List.mem_range] at hi
   rw [show 256 = 2 ^ 8 from rfl, Nat.testBit_mod_two_pow]
   simp [hi]
 · congr 1
   funext i
   simp only [Function.comp]
   rw [show 256 = 2 ^ 8 from rfl, ← Nat.shiftRight_eq_div_pow, Nat.testBit_shiftRight]
def rep (c : Nat) : Nat → Nat
  | 0 => 0
  | n + 1 => rep c n * 256 + c
theorem and_bytes (a b c d : Nat) (hb : b < 256) (hd : d < 256) : (a * 256 + b) &&& (c * 256 + d) = (a &&& c) * 256 + (b &&& d) := by
 apply Nat.eq_of_testBit_eq
 intro i
 have hbd : b &&& d < 2 ^ 8 := Nat.and_lt_two_pow _ hd
 rw [Nat.testBit_and, Nat.mul_comm a, Nat.mul_comm c, Nat.mul_comm (a &&& c), show 256 = 2 ^ 8 from rfl, Nat.testBit_two_pow_mul_add _ hb, Nat.testBit_two_pow_mul_add _ hd, Nat.testBit_two_pow_mul_add _ hbd]
 split <;> rw [Nat.testBit_and]
def s1 (b : Nat) : Nat := (b / 2 &&& 85) + (b &&& 85)
def s2 (b : Nat) : Nat := (b / 4 &&& 51) + (b &&& 51)
def s3 (b : Nat) : Nat := (b / 16 + b) &&& 15
theorem byte1 : ∀ b : Fin 256, (∀ c : Fin 2, ((c.val * 128 + b.val / 2) &&& 85) = (b.val / 2 &&& 85)) ∧ s1 b.val < 256 := by decide +kernel
theorem byte2 : ∀ b : Fin 256, (∀ c : Fin 4, ((c.val * 64 + b.val / 4) &&& 51) = (b.val / 4 &&& 51)) ∧ s2 (s1 b.val) < 256 ∧ s2 (s1 b.val) / 16 ≤ 4 ∧ s2 (s1 b.val) % 16 ≤ 4 ∧ s2 b.val < 256 := by decide +kernel
theorem byte3 : ∀ b : Fin 256, s3 (s2 (s1 b.val)) = pop8 b.val ∧ pop8 b.val ≤ 8 := by decide +kernel
theorem nib3 : ∀ p q c : Fin 5, ((c.val * 16 + (p.val * 16 + q.val) / 16 + (p.val * 16 + q.val)) &&& 15) = s3 (p.val * 16 + q.val) := by decide +kernel
def S1 (n x : Nat) : Nat := (x / 2 &&& rep 85 n) + (x &&& rep 85 n)
def S2 (n x : Nat) : Nat := (x / 4 &&& rep 51 n) + (x &&& rep 51 n)
def S3 (n x : Nat) : Nat := (x / 16 + x) &&& rep 15 n
def mapB (f : Nat → Nat) : Nat → Nat → Nat
  | 0, _ => 0
  | n + 1, x => mapB f n (x / 256) * 256 + f (x % 256)
theorem S1_eq : ∀ n x, x < 256 ^ n → S1 n x = mapB s1 n x := by
 intro n
 induction n with
 | zero => intro x h; simp [S1, rep, mapB]
 | succ n ih =>
  intro x h
  have hx : x = x / 256 * 256 + x % 256 := xo
  have hb : x % 256 < 256 := Nat.mod_lt _ xo
  have hdiv : x / 2 = x / 256 / 2 * 256 + (x / 256 % 2 * 128 + x % 256 / 2) := xo
  have b1 := (byte1 ⟨x % 256, hb⟩).1 ⟨x / 256 % 2, by omega⟩
  have ih2 := ih (x / 256) (by rw [Nat.pow_succ] at h; omega)
  unfold S1 at ih2 ⊢
  rw [mapB, ← ih2, s1]
  have e1 : x / 2 &&& rep 85 (n + 1) = (x / 256 / 2 &&& rep 85 n) * 256 + (x % 256 / 2 &&& 85) := by
   rw [hdiv, rep, and_bytes _ _ _ _ xo xo]
   rw [show ((x / 256 % 2 * 128 + x % 256 / 2) &&& 85) = (x % 256 / 2 &&& 85) from b1]
  have e2 : x &&& rep 85 (n + 1) = (x / 256 &&& rep 85 n) * 256 + (x % 256 &&& 85) := by
   conv => lhs; rw [hx, rep]
   rw [and_bytes _ _ _ _ hb xo]
  rw [e1, e2]
  omega
theorem S2_eq : ∀ n x, x < 256 ^ n → S2 n x = mapB s2 n x := by
 intro n
 induction n with
 | zero => intro x h; simp [S2, rep, mapB]
 | succ n ih =>
  intro x h
  have hx : x = x / 256 * 256 + x % 256 := xo
  have hb : x % 256 < 256 := Nat.mod_lt _ xo
  have hdiv : x / 4 = x / 256 / 4 * 256 + (x / 256 % 4 * 64 + x % 256 / 4) := xo
  have b1 := (byte2 ⟨x % 256, hb⟩).1 ⟨x / 256 % 4, by omega⟩
  have ih2 := ih (x / 256) (by rw [Nat.pow_succ] at h; omega)
  unfold S2 at ih2 ⊢
  rw [mapB, ← ih2, s2]
  have e1 : x / 4 &&& rep 51 (n + 1) = (x / 256 / 4 &&& rep 51 n) * 256 + (x % 256 / 4 &&& 51) := by
   rw [hdiv, rep, and_bytes _ _ _ _ xo xo]
   rw [show ((x / 256 % 4 * 64 + x % 256 / 4) &&& 51) = (x % 256 / 4 &&& 51) from b1]
  have e2 : x &&& rep 51 (n + 1) = (x / 256 &&& rep 51 n) * 256 + (x % 256 &&& 51) := by
   conv => lhs; rw [hx, rep]
   rw [and_bytes _ _ _ _ hb xo]
  rw [e1, e2]
  omega
def smallB : Nat → Nat → Prop
  | 0, x => x = 0
  | n + 1, x => x % 256 / 16 ≤ 4 ∧ x % 16 ≤ 4 ∧ smallB n (x / 256)
theorem smallB_low {n x : Nat} (h : smallB n x) : x % 16 ≤ 4 := by
 cases n with
 | zero => rw [smallB] at h; omega
 | succ n => exact h.2.1
theorem S3_eq : ∀ n x, smallB n x → S3 n x = mapB s3 n x := by
 intro n
 induction n with
 | zero => intro x h; simp [S3, rep, mapB]
 | succ n ih =>
  intro x h
  obtain ⟨h1, h2, h3⟩ := h
  have h4 := smallB_low h3
  have ih2 := ih (x / 256) h3
  unfold S3 at ih2 ⊢
  rw [mapB, ← ih2]
  have hb := nib3 ⟨x % 256 / 16, by omega⟩ ⟨x % 16, by omega⟩ ⟨x / 256 % 16, by omega⟩
  have e0 : x % 256 / 16 * 16 + x % 16 = x % 256 := xo
  simp only [e0] at hb
  have e1 : x / 16 + x = (x / 256 / 16 + x / 256) * 256 + (x / 256 % 16 * 16 + x % 256 / 16 + x % 256) := xo
  rw [e1, rep, and_bytes _ _ _ _ xo xo, hb]
theorem mapB_lt {f : Nat → Nat} (hf : ∀ b, b < 256 → f b < 256) : ∀ n x, mapB f n x < 256 ^ n := by
 intro n
 induction n with
 | zero => intro x; simp [mapB]
 | succ n ih =>
  intro x
  have := ih (x / 256)
  have := hf (x % 256) (Nat.mod_lt _ xo)
  rw [mapB, Nat.pow_succ]
  omega
theorem mapB_comp {f g : Nat → Nat} (hf : ∀ b, b < 256 → f b < 256) : ∀ n x, mapB g n (mapB f n x) = mapB (fun b => g (f b)) n x := by
 intro n
 induction n with
 | zero => intro x; rfl
 | succ n ih =>
  intro x
  have := hf (x % 256) (Nat.mod_lt _ xo)
  rw [mapB, mapB, mapB, ← ih]
  rw [show (mapB f n (x / 256) * 256 + f (x % 256)) / 256 = mapB f n (x / 256) by omega, show (mapB f n (x / 256) * 256 + f (x % 256)) % 256 = f (x % 256) by omega]
theorem mapB_congr {f g : Nat → Nat} (h : ∀ b, b < 256 → f b = g b) : ∀ n x, mapB f n x = mapB g n x := by
 intro n
 induction n with
 | zero => intro x; rfl
 | succ n ih => intro x; rw [mapB, mapB, ih, h _ (Nat.mod_lt _ xo)]
theorem mapB_small : ∀ n x, smallB n (mapB (fun b => s2 (s1 b)) n x) := by
 intro n
 induction n with
 | zero => intro x; rfl
 | succ n ih =>
  intro x
  obtain ⟨-, h1, h2, h3, -⟩ := byte2 ⟨x % 256, Nat.mod_lt _ xo⟩
  simp only at h1 h2 h3
  rw [mapB, smallB]
  refine ⟨by omega, by omega, ?_⟩
  rw [show (mapB (fun b => s2 (s1 b)) n (x / 256) * 256 + s2 (s1 (x % 256))) / 256 = mapB (fun b => s2 (s1 b)) n (x / 256) by omega]
  exact ih _
theorem S_all (n x : Nat) (h : x < 256 ^ n) : S3 n (S2 n (S1 n x)) = mapB pop8 n x := by
 have l1 : ∀ b, b < 256 → s1 b < 256 := fun b hb => (byte1 ⟨b, hb⟩).2
 have l2 : ∀ b, b < 256 → s2 b < 256 := fun b hb => (byte2 ⟨b, hb⟩).2.2.2.2
 have l3 : ∀ b, b < 256 → s2 (s1 b) < 256 := fun b hb => (byte2 ⟨b, hb⟩).2.1
 rw [S1_eq n x h, S2_eq n _ (mapB_lt l1 n x), mapB_comp l1, S3_eq n _ (mapB_small n x), mapB_comp l3]
 exact mapB_congr (fun b hb => (byte3 ⟨b, hb⟩).1) n x
theorem pop8_le (b : Nat) (h : b < 256) : pop8 b ≤ 8 := (byte3 ⟨b, h⟩).2
theorem popN_zero (x : Nat) : popN 0 x = 0 := rfl
theorem popI_eq {x : Int} (h0 : 0 ≤ x) : popI x = popN 8 x.toNat := by
 unfold popI popN
 rfl
theorem div_of {a b : Nat} (q : Nat) (h : a < b) : (a + b * q) / b = q := by rw [Nat.add_mul_div_left _ _ xo, Nat.div_eq_of_lt h, Nat.zero_add]
theorem mod_of {a b : Nat} (q : Nat) (h : a < b) : (a + b * q) % b = a := by rw [Nat.add_mul_mod_self_left, Nat.mod_eq_of_lt h]
theorem fold_bytes (x : Nat) : ∃ z1 z2 z3, mapB pop8 8 x + mapB pop8 8 x / 256 = z1 ∧ z1 + z1 / 65536 = z2 ∧ z2 + z2 / 4294967296 = z3 ∧ z3 % 128 = popN 8 x ∧ mapB pop8 8 x < 9223372036854775808 ∧ z1 < 9223372036854775808 ∧ z2 < 9223372036854775808 ∧ z3 < 9223372036854775808 := by
 refine ⟨_, _, _, rfl, rfl, rfl, ?_⟩
 have hb := fun y : Nat => pop8_le (y % 256) (Nat.mod_lt _ xo)
 simp only [popN_succ, popN_zero, mapB]
 generalize x / 256 = x1
 generalize x1 / 256 = x2
 generalize x2 / 256 = x3
 generalize x3 / 256 = x4
 generalize x4 / 256 = x5
 generalize x5 / 256 = x6
 generalize x6 / 256 = x7
 have h0 := hb x
 have h1 := hb x1
 have h2 := hb x2
 have h3 := hb x3
 have h4 := hb x4
 have h5 := hb x5
 have h6 := hb x6
 have h7 := hb x7
 generalize pop8 (x % 256) = p0 at *
 generalize pop8 (x1 % 256) = p1 at *
 generalize pop8 (x2 % 256) = p2 at *
 generalize pop8 (x3 % 256) = p3 at *
 generalize pop8 (x4 % 256) = p4 at *
 generalize pop8 (x5 % 256) = p5 at *
 generalize pop8 (x6 % 256) = p6 at *
 generalize pop8 (x7 % 256) = p7 at *
 clear hb
 obtain ⟨z, hz⟩ : ∃ z, ((((((((0 * 256 + p7) * 256 + p6) * 256 + p5) * 256 + p4) * 256 + p3) * 256 + p2) * 256 + p1) * 256 + p0) = z := ⟨_, rfl⟩
 rw [hz]
 have e0 : z = p0 + 256 * (p1 + 256 * p2 + 65536 * p3 + 16777216 * p4 + 4294967296 * p5 + 1099511627776 * p6 + 281474976710656 * p7) := xo
 have e1 : z / 256 = p1 + 256 * p2 + 65536 * p3 + 16777216 * p4 + 4294967296 * p5 + 1099511627776 * p6 + 281474976710656 * p7 := by rw [e0]; exact div_of _ xo
 rw [e1]
 obtain ⟨z1, hz1⟩ : ∃ z1, z + (p1 + 256 * p2 + 65536 * p3 + 16777216 * p4 + 4294967296 * p5 + 1099511627776 * p6 + 281474976710656 * p7) = z1 := ⟨_, rfl⟩
 rw [hz1]
 have e2 : z1 = ((p0 + p1) + 256 * (p1 + p2)) + 65536 * ((p2 + p3) + 256 * (p3 + p4) + 65536 * (p4 + p5) + 16777216 * (p5 + p6) + 4294967296 * (p6 + p7) + 1099511627776 * p7) := xo
 have e3 : z1 / 65536 = (p2 + p3) + 256 * (p3 + p4) + 65536 * (p4 + p5) + 16777216 * (p5 + p6) + 4294967296 * (p6 + p7) + 1099511627776 * p7 := by rw [e2]; exact div_of _ xo
 rw [e3]
 obtain ⟨z2, hz2⟩ : ∃ z2, z1 + ((p2 + p3) + 256 * (p3 + p4) + 65536 * (p4 + p5) + 16777216 * (p5 + p6) + 4294967296 * (p6 + p7) + 1099511627776 * p7) = z2 := ⟨_, rfl⟩
 rw [hz2]
 have e4 : z2 = ((p0 + p1 + p2 + p3) + 256 * (p1 + p2 + p3 + p4) + 65536 * (p2 + p3 + p4 + p5) + 16777216 * (p3 + p4 + p5 + p6)) + 4294967296 * ((p4 + p5 + p6 + p7) + 256 * (p5 + p6 + p7) + 65536 * (p6 + p7) + 16777216 * p7) := xo
 have e5 : z2 / 4294967296 = (p4 + p5 + p6 + p7) + 256 * (p5 + p6 + p7) + 65536 * (p6 + p7) + 16777216 * p7 := by rw [e4]; exact div_of _ xo
 rw [e5]
 clear e1 e3 e5
 have l0 : z < 9223372036854775808 := by rw [e0]; clear hz hz1 hz2 e0 e2 e4; omega
 have l1 : z1 < 9223372036854775808 := by rw [e2]; clear hz hz1 hz2 e0 e2 e4; omega
 have l2 : z2 < 9223372036854775808 := by rw [e4]; clear hz hz1 hz2 e0 e2 e4; omega
 refine ⟨?_, l0, l1, l2, by rw [e4]; clear hz hz1 hz2 e0 e2 e4 l0 l1 l2; omega⟩
 clear hz hz1 hz2 e0 e2 l0 l1 l2
 have e6 : z2 + ((p4 + p5 + p6 + p7) + 256 * (p5 + p6 + p7) + 65536 * (p6 + p7) + 16777216 * p7) = (p0 + p1 + p2 + p3 + p4 + p5 + p6 + p7) + 128 * (2 * ((p1 + p2 + p3 + p4 + p5 + p6 + p7) + 256 * (p2 + p3 + p4 + p5 + p6 + p7) + 65536 * (p3 + p4 + p5 + p6 + p7) + 16777216 * ((p4 + p5 + p6 + p7) + 256 * (p5 + p6 + p7) + 65536 * (p6 + p7) + 16777216 * p7))) := by rw [e4]; clear e4; omega
 rw [e6, mod_of _ xo]
 clear e4 e6
 omega
theorem smallB_lt : ∀ n x, smallB n x → 3 * x < 256 ^ n := by
 intro n
 induction n with
 | zero => intro x h; rw [smallB] at h; subst h; decide
 | succ n ih =>
  intro x ⟨h1, h2, h3⟩
  have := ih _ h3
  rw [Nat.pow_succ]
  omega
theorem bits_and_i64_nat (a b : Nat) (ha : a < 9223372036854775808) (hb : b < 9223372036854775808) :
    bits .and .i64 (a : Int) (b : Int) = ((a &&& b : Nat) : Int) := by
 have hx : a &&& b < 2 ^ 63 := Nat.and_lt_two_pow _ xo
 have h1 : (BitVec.ofInt 64 (a : Int)).toNat = a := by
  rw [BitVec.ofInt_natCast, BitVec.toNat_ofNat]; exact Nat.mod_eq_of_lt xo
 have h2 : (BitVec.ofInt 64 (b : Int)).toNat = b := by
  rw [BitVec.ofInt_natCast, BitVec.toNat_ofNat]; exact Nat.mod_eq_of_lt xo
 show IntKind.i64.wrap ((BitVec.ofInt 64 (a : Int) &&& BitVec.ofInt 64 (b : Int)).toNat : Int) = _
 rw [BitVec.toNat_and, h1, h2]
 exact IntWalk.i64_in _ xo
theorem ones1 {n : Nat} (hn : n < 18446744073709551616) : IntKind.u64.wrap (bits .and .u64 ((n : Int) / 2) 6148914691236517205 + bits .and .u64 (n : Int) 6148914691236517205) = (S1 8 n : Nat) := by
 have l1 : ∀ b, b < 256 → s1 b < 256 := fun b hb => (byte1 ⟨b, hb⟩).2
 have hl := mapB_lt l1 8 n
 rw [← S1_eq 8 n xo, S1, show rep 85 8 = 6148914691236517205 from rfl] at hl
 have e1 := bits_and_u64_nat (n / 2) 6148914691236517205 xo xo
 have e2 := bits_and_u64_nat n 6148914691236517205 xo xo
 rw [S1, show rep 85 8 = 6148914691236517205 from rfl]
 rw [show ((n / 2 : Nat) : Int) = (n : Int) / 2 by omega] at e1
 rw [show ((6148914691236517205 : Nat) : Int) = 6148914691236517205 from rfl] at e1 e2
 rw [e1, e2, IntKind.wrap_u64]
 omega
theorem ones2 {n : Nat} (hn : n < 18446744073709551616) : IntKind.u64.wrap (bits .and .u64 ((n : Int) / 4) 3689348814741910323 + bits .and .u64 (n : Int) 3689348814741910323) = (S2 8 n : Nat) := by
 have l2 : ∀ b, b < 256 → s2 b < 256 := fun b hb => (byte2 ⟨b, hb⟩).2.2.2.2
 have hl := mapB_lt l2 8 n
 rw [← S2_eq 8 n xo, S2, show rep 51 8 = 3689348814741910323 from rfl] at hl
 have e1 := bits_and_u64_nat (n / 4) 3689348814741910323 xo xo
 have e2 := bits_and_u64_nat n 3689348814741910323 xo xo
 rw [S2, show rep 51 8 = 3689348814741910323 from rfl]
 rw [show ((n / 4 : Nat) : Int) = (n : Int) / 4 by omega] at e1
 rw [show ((3689348814741910323 : Nat) : Int) = 3689348814741910323 from rfl] at e1 e2
 rw [e1, e2, IntKind.wrap_u64]
 omega
theorem ones3 {n : Nat} (hn : 3 * n < 18446744073709551616) : bits .and .u64 (IntKind.u64.wrap ((n : Int) / 16 + (n : Int))) 1085102592571150095 = (S3 8 n : Nat) := by
 have e1 := bits_and_u64_nat (n / 16 + n) 1085102592571150095 xo xo
 rw [S3, show rep 15 8 = 1085102592571150095 from rfl, ← e1, IntKind.wrap_u64]
 congr 1
 omega
end
section
open Go.RowKit
def pwB (n : Int) : Bool := decide (0 < n) && (n.toNat &&& (n.toNat - 1)) == 0
theorem pwB_iff {n : Nat} (h : 0 < n) : pwB (n : Int) = true ↔ 2 ^ n.log2 = n := by
 unfold pwB
 rw [Int.toNat_natCast, Bool.and_eq_true, decide_eq_true_eq, beq_iff_eq, Nat.and_sub_one_eq_zero_iff_isPowerOfTwo xo]
 constructor
 · rintro ⟨-, k, rfl⟩
   rw [Nat.log2_two_pow]
 · intro e
   exact ⟨by omega, n.log2, e.symm⟩
theorem pwB_pow {n : Nat} (h : pwB (n : Int) = true) : ∃ k, n = 2 ^ k := by
 have h0 : 0 < n := by
  unfold pwB at h
  rw [Bool.and_eq_true, decide_eq_true_eq] at h
  omega
 exact ⟨n.log2, ((pwB_iff h0).1 h).symm⟩
theorem pwB_neg {n : Int} (h : n ≤ 0) : pwB n = false := by simp [pwB]; omega
def fitB (seg many : Int) : Bool := decide (4 ≤ seg) && decide (seg ≤ 64) && pwB seg && decide (seg ≤ many) && decide (many ≤ 65536) && decide (many % seg = 0) && pwB (many / seg)
structure SlC where
 seg : Int
 ws : List Int
 ks : List Int
 vs : List Int
 cs : List Int
 laid : Int
structure SlA where
 wa : Option Addr
 ka : Option Addr
 va : Option Addr
 ca : Option Addr
 wc : Nat
 kc : Nat
 vc : Nat
 cc : Nat
abbrev slV (c : SlC) (a : SlA) : Value := .agg #[.int .i64 c.seg, .slice a.wa c.ws.length a.wc, .slice a.ka c.ks.length a.kc, .slice a.va c.vs.length a.vc, .slice a.ca c.cs.length a.cc, .int .u64 c.laid]
structure SlIn (W : World) (c : SlC) (a : SlA) : Prop where
 w : IsRow .u64 W a.wa c.ws
 k : IsRow .i64 W a.ka c.ks
 v : IsRow .i64 W a.va c.vs
 n : IsRow .i64 W a.ca c.cs
 u : U64s c.ws
theorem SlIn.below {w w' : World} {c : SlC} {a : SlA} (h : SlIn w c a) (hb : Below w.heap.size w w') : SlIn w' c a := ⟨h.w.below hb, h.k.below hb, h.v.below hb, h.n.below hb, h.u⟩
def plsW (ws : List Int) (a b : Nat) : List Nat := (List.range' a (b - a)).filter (bitW ws)
def cntW (ws : List Int) (a b : Nat) : Nat := (List.range' a (b - a)).countP (bitW ws)
theorem plsW_length (ws : List Int) (a b : Nat) : (plsW ws a b).length = cntW ws a b := (List.countP_eq_length_filter ..).symm
theorem cntW_le (ws : List Int) (a b : Nat) : cntW ws a b ≤ b - a := by
 have := List.countP_le_length (p := bitW ws) (l := List.range' a (b - a))
 rwa [List.length_range'] at this
theorem plsW_mem {ws : List Int} {a b i : Nat} (h : i ∈ plsW ws a b) : a ≤ i ∧ i < b := by
 rw [plsW, List.mem_filter, List.mem_range'_1] at h
 omega
def wMayB (ws : List Int) (n : Nat) : Bool := decide (ws.length = (n + 63) / 64) && (List.range' n (64 * ws.length - n)).all fun i => !bitW ws i
def clrB (c : SlC) : Bool := (List.range c.ks.length).all fun i => bitW c.ws i || (c.ks.getD i 0 == 0 && c.vs.getD i 0 == 0)
def cntB (c : SlC) : Bool := (List.range c.cs.length).all fun k => c.cs.getD k 0 == (cntW c.ws (k * c.seg.toNat) ((k + 1) * c.seg.toNat) : Int)
def slHead (c : SlC) : Bool := fitB c.seg c.ks.length && decide (c.vs.length = c.ks.length) && wMayB c.ws c.ks.length && decide ((c.cs.length : Int) = c.ks.length / c.seg)
def slMay (c : SlC) : Bool := slHead c && clrB c && cntB c
def slE (c : SlC) : Int := if slMay c = true then 0 else 8
theorem fitB_facts {seg many : Int} (h : fitB seg many = true) : 4 ≤ seg ∧ seg ≤ 64 ∧ pwB seg = true ∧ seg ≤ many ∧ many ≤ 65536 ∧ many % seg = 0 ∧ pwB (many / seg) = true := by
 simp only [fitB, Bool.and_eq_true, decide_eq_true_eq] at h
 obtain ⟨⟨⟨⟨⟨⟨h1, h2⟩, h3⟩, h4⟩, h5⟩, h6⟩, h7⟩ := h
 exact ⟨h1, h2, h3, h4, h5, h6, h7⟩
theorem slHead_facts {c : SlC} (h : slHead c = true) : ∃ S M : Nat, c.seg = S ∧ 4 ≤ S ∧ S ≤ 64 ∧ c.ks.length = S * M ∧ c.vs.length = S * M ∧ c.cs.length = M ∧ 1 ≤ M ∧ S * M ≤ 65536 ∧ M ≤ 16384 ∧ c.ws.length = (S * M + 63) / 64 ∧ pwB (S : Int) = true ∧ pwB (M : Int) = true ∧ ∀ i, S * M ≤ i → bitW c.ws i = false := by
 simp only [slHead, Bool.and_eq_true, decide_eq_true_eq] at h
 obtain ⟨⟨⟨h1, h2⟩, h3⟩, h4⟩ := h
 obtain ⟨f1, f2, f3, f4, f5, f6, f7⟩ := fitB_facts h1
 simp only [wMayB, Bool.and_eq_true, decide_eq_true_eq] at h3
 obtain ⟨h5, h6⟩ := h3
 obtain ⟨S, hS⟩ : ∃ S : Nat, c.seg = S := ⟨c.seg.toNat, by omega⟩
 rw [hS] at f1 f2 f3 f4 f6 f7 h4
 have hn : c.ks.length = S * c.cs.length := by
  have e := Int.emod_add_mul_ediv (c.ks.length : Int) S
  rw [f6, ← h4] at e
  have e2 : ((S * c.cs.length : Nat) : Int) = (c.ks.length : Int) := by push_cast; omega
  omega
 rw [← h4] at f7
 have hM : 1 ≤ c.cs.length := by
  rcases Nat.eq_zero_or_pos c.cs.length with e | e
  · rw [e] at f7; cases f7
  · exact e
 have hM2 : c.cs.length ≤ 16384 := by
  have h9 : 4 * c.cs.length ≤ S * c.cs.length := Nat.mul_le_mul_right _ xo
  omega
 refine ⟨S, c.cs.length, hS, by omega, by omega, hn, by omega, rfl, hM, by omega, hM2, by rw [← hn]; exact h5, f3, f7, fun i hi => ?_⟩
 by_cases hi2 : i < 64 * c.ws.length
 · have := List.all_eq_true.1 h6 i (List.mem_range'_1.2 xo)
   simpa using this
 · rw [bitW, List.getD_eq_getElem?_getD, List.getElem?_eq_none xo]
   exact bitI_zero _
def prs (c : SlC) (a b : Nat) : List (Int × Int) := (plsW c.ws a b).map fun i => (c.ks.getD i 0, c.vs.getD i 0)
end
section
open Go.RowKit
def cutA (ws : List Int) (a k : Nat) : Int := if 64 * k < a then cutLo (ws.getD k 0) (a - 64 * k) else ws.getD k 0
def cutV (ws : List Int) (a b k : Nat) : Int := if b < 64 * k + 64 then cutHi (cutA ws a k) (64 * k + 64 - b) else cutA ws a k
theorem cutA_bd {ws : List Int} (h : U64s ws) (a k : Nat) : 0 ≤ cutA ws a k ∧ cutA ws a k < 18446744073709551616 := by
 have := h.get k
 unfold cutA
 split
 · have := cutLo_bd (x := ws.getD k 0) xo (a - 64 * k)
   omega
 · exact this
theorem cutV_bd {ws : List Int} (h : U64s ws) {a b k : Nat} (hb : 64 * k ≤ b) : 0 ≤ cutV ws a b k ∧ cutV ws a b k < 18446744073709551616 := by
 have := cutA_bd h a k
 unfold cutV
 split
 · exact cutHi_bd this.1 this.2 xo
 · exact this
theorem bitW_at (ws : List Int) (k : Nat) {j : Nat} (hj : j < 64) : bitW ws (64 * k + j) = bitI (ws.getD k 0) j := by
 rw [bitW, show (64 * k + j) / 64 = k by omega, show (64 * k + j) % 64 = j by omega]
def inW (ws : List Int) (a b i : Nat) : Bool := bitW ws i && (decide (a ≤ i) && decide (i < b))
theorem cutV_bit {ws : List Int} (h : U64s ws) {a b k j : Nat} (hb : 64 * k ≤ b) (hj : j < 64) : bitI (cutV ws a b k) j = inW ws a b (64 * k + j) := by
 have h1 := h.get k
 have h2 := cutA_bd h a k
 have e1 : bitI (cutA ws a k) j = (bitW ws (64 * k + j) && decide (a ≤ 64 * k + j)) := by
  rw [bitW_at ws k hj]
  unfold cutA
  split
  · rw [cutLo_bit h1.1]
    congr 1
    rw [decide_eq_decide]
    omega
  · rw [decide_eq_true xo, Bool.and_true]
 unfold cutV inW
 split
 · rw [cutHi_bit h2.1 xo, e1, Bool.and_assoc]
   congr 2
   rw [decide_eq_decide]
   omega
 · rw [e1, decide_eq_true (by omega : 64 * k + j < b), Bool.and_true]
theorem popI_cutV {ws : List Int} (h : U64s ws) {a b k : Nat} (hb : 64 * k ≤ b) : popI (cutV ws a b k) = (List.range 64).countP fun j => inW ws a b (64 * k + j) := by
 unfold popI
 apply List.countP_congr
 intro j hj
 rw [List.mem_range] at hj
 rw [cutV_bit h hb hj]
def cntP (ws : List Int) (a b m : Nat) : Nat := ((List.range' (a / 64) m).map fun k => popI (cutV ws a b k)).sum
theorem cntP_zero (ws : List Int) (a b : Nat) : cntP ws a b 0 = 0 := rfl
theorem cntP_succ (ws : List Int) (a b m : Nat) : cntP ws a b (m + 1) = cntP ws a b m + popI (cutV ws a b (a / 64 + m)) := by
 unfold cntP
 rw [List.range'_concat, List.map_append, List.sum_append]
 simp
theorem cnt_blocks (g : Nat → Bool) (s : Nat) (hs : ∀ i, i < 64 * s → g i = false) : ∀ m, (List.range (64 * (s + m))).countP g = ((List.range' s m).map fun k => (List.range 64).countP fun j => g (64 * k + j)).sum := by
 intro m
 induction m with
 | zero =>
  simp only [Nat.add_zero, List.range'_zero, List.map_nil, List.sum_nil]
  rw [List.countP_eq_zero]
  intro i hi
  rw [List.mem_range] at hi
  simp [hs i hi]
 | succ m ih =>
  rw [show 64 * (s + (m + 1)) = 64 * (s + m) + 64 by omega, List.range_add, List.countP_append, ih, List.range'_concat, List.map_append, List.sum_append, List.countP_map]
  simp only [List.map_cons, List.map_nil, List.sum_cons, List.sum_nil, Nat.add_zero, Nat.one_mul]
  rfl
theorem cnt_in (ws : List Int) {a b n : Nat} (h1 : a ≤ b) (h2 : b ≤ n) : (List.range n).countP (inW ws a b) = cntW ws a b := by
 have e : List.range n = List.range' 0 a ++ (List.range' a (b - a) ++ List.range' b (n - b)) := by
  have e1 := List.range'_append (s := a) (m := b - a) (n := n - b) (step := 1)
  have e2 := List.range'_append (s := 0) (m := a) (n := n - a) (step := 1)
  simp only [Nat.one_mul, Nat.zero_add] at e1 e2
  rw [show a + (b - a) = b by omega, show b - a + (n - b) = n - a by omega] at e1
  rw [show a + (n - a) = n by omega] at e2
  rw [e1, e2, List.range_eq_range']
 rw [e, List.countP_append, List.countP_append]
 have z1 : (List.range' 0 a).countP (inW ws a b) = 0 := by
  rw [List.countP_eq_zero]
  intro i hi
  have := List.mem_range'_1.1 hi
  simp [inW, show ¬ a ≤ i by omega]
 have z2 : (List.range' b (n - b)).countP (inW ws a b) = 0 := by
  rw [List.countP_eq_zero]
  intro i hi
  have := List.mem_range'_1.1 hi
  simp [inW, show ¬ i < b by omega]
 have z3 : (List.range' a (b - a)).countP (inW ws a b) = cntW ws a b := by
  apply List.countP_congr
  intro i hi
  have := List.mem_range'_1.1 hi
  simp [inW, show a ≤ i by omega, show i < b by omega]
 omega
theorem cntP_all {ws : List Int} (h : U64s ws) {a b : Nat} (hab : a ≤ b) : cntP ws a b ((b + 63) / 64 - a / 64) = cntW ws a b := by
 rw [← cnt_in ws hab (show b ≤ 64 * (a / 64 + ((b + 63) / 64 - a / 64)) by omega), cnt_blocks (inW ws a b) (a / 64) (fun i hi => by simp [inW, show ¬ a ≤ i by omega]), cntP]
 congr 1
 apply List.map_congr_left
 intro k hk
 have := List.mem_range'_1.1 hk
 exact popI_cutV h xo
theorem cntP_le {ws : List Int} (a b m : Nat) : cntP ws a b m ≤ 64 * m := by
 induction m with
 | zero => rw [cntP_zero]; omega
 | succ m ih => rw [cntP_succ]; have := popI_le (cutV ws a b (a / 64 + m)); omega
def partsL (ws : List Int) (a b : Nat) : List (Array Value) := (List.range' (a / 64) ((b + 63) / 64 - a / 64)).map fun k => #[.int .i64 ((64 * k : Nat) : Int), .int .u64 (cutV ws a b k)]
theorem partsL_length (ws : List Int) (a b : Nat) : (partsL ws a b).length = (b + 63) / 64 - a / 64 := by simp [partsL]
theorem partsL_get (ws : List Int) {a b k : Nat} (h : k < (b + 63) / 64 - a / 64) : (partsL ws a b).getD k #[] = #[.int .i64 ((64 * (a / 64 + k) : Nat) : Int), .int .u64 (cutV ws a b (a / 64 + k))] := by
 rw [List.getD_eq_getElem?_getD, partsL, List.getElem?_map, List.getElem?_eq_getElem (by simpa using h)]
 simp
theorem plsW_nil (ws : List Int) (a : Nat) : plsW ws a a = [] := by simp [plsW]
theorem plsW_succ {ws : List Int} {a b : Nat} (h : a ≤ b) : plsW ws a (b + 1) = plsW ws a b ++ if bitW ws b = true then [b] else [] := by
 unfold plsW
 rw [show b + 1 - a = b - a + 1 by omega, List.range'_concat, List.filter_append]
 congr 1
 rw [show a + 1 * (b - a) = b by omega]
 simp [List.filter_cons]
theorem cntW_none {ws : List Int} {a b : Nat} (h : b ≤ a) : cntW ws a b = 0 := by simp [cntW, show b - a = 0 by omega]
theorem wMayB_iff {ws : List Int} (hu : U64s ws) {n : Nat} (hl : ws.length = (n + 63) / 64) : wMayB ws n = true ↔ n % 64 = 0 ∨ ws.getD (ws.length - 1) 0 / 2 ^ (n % 64) = 0 := by
 have hg := hu.get (ws.length - 1)
 unfold wMayB
 rw [decide_eq_true hl, Bool.true_and, List.all_eq_true]
 constructor
 · intro h
   by_cases h0 : n % 64 = 0
   · exact .inl h0
   · right
     rw [shr_zero hg.1]
     intro i hi
     by_cases h64 : i < 64
     · have := h (64 * (ws.length - 1) + i) (List.mem_range'_1.2 xo)
       rw [bitW_at _ _ h64] at this
       simpa using this
     · exact bitI_high hg.2 xo
 · rintro h i hi
   have hi := List.mem_range'_1.1 hi
   rcases h with h | h
   · omega
   · rw [shr_zero hg.1] at h
     have := h (i % 64) xo
     rw [bitW, show i / 64 = ws.length - 1 by omega, this]
     rfl
end
section
open Go.RowKit
end
section
open Go.RowKit
theorem Ones_ok (x : Int) (h0 : 0 ≤ x) (h1 : x < 18446744073709551616) (w : World) :
    Calls Tryd.prog 32 #[.int .u64 x] w fun e w' => e = .returned (.int .i64 (popI x)) ∧ w = w' := by
 go_enter Tryd.func32, Tryd.ntmps32
 go_wp2
 go_ret
 refine ⟨?_, rfl⟩
 show Ending.returned (.int .i64 _) = _
 refine congrArg (fun z => Ending.returned (Value.int .i64 z)) ?_
 obtain ⟨n, rfl⟩ := Int.eq_ofNat_of_zero_le h0
 have hn : n < 18446744073709551616 := xo
 have l1 : ∀ b, b < 256 → s1 b < 256 := fun b hb => (byte1 ⟨b, hb⟩).2
 have l2 : ∀ b, b < 256 → s2 b < 256 := fun b hb => (byte2 ⟨b, hb⟩).2.2.2.2
 have b1 := mapB_lt l1 8 n
 rw [← S1_eq 8 n xo] at b1
 have b2 := mapB_small 8 n
 rw [← mapB_comp l1, ← S1_eq 8 n xo, ← S2_eq 8 _ b1] at b2
 have b3 := smallB_lt 8 _ b2
 have hs := S_all 8 n xo
 obtain ⟨z1, z2, z3, e1, e2, e3, e4, q0, q1, q2, q3⟩ := fold_bytes n
 rw [ones1 hn, ones2 xo, ones3 xo, hs]
 have w1 : IntKind.u64.wrap (((mapB pop8 8 n : Nat) : Int) + ((mapB pop8 8 n : Nat) : Int) / 256) = (z1 : Int) := by rw [IntKind.wrap_u64]; omega
 have w2 : IntKind.u64.wrap ((z1 : Int) + (z1 : Int) / 65536) = (z2 : Int) := by rw [IntKind.wrap_u64]; omega
 have w3 : IntKind.u64.wrap ((z2 : Int) + (z2 : Int) / 4294967296) = (z3 : Int) := by rw [IntKind.wrap_u64]; omega
 rw [w1, w2, w3]
 have w4 : wrap64 (z3 : Int) = z3 := IntWalk.wrap64_in _ xo
 rw [w4, show (127 : Int) = ((127 : Nat) : Int) from rfl, bits_and_i64_nat _ _ q3 xo, show 127 = 2 ^ 7 - 1 from rfl, Nat.and_two_pow_sub_one_eq_mod, popI_eq xo, Int.toNat_natCast, ← e4]
theorem Power_ok (n : Int) (h1 : n ≤ 9223372036854775807) (w : World) :
    Calls Tryd.prog 77 #[.int .i64 n] w fun e w' => e = .returned (.bool (pwB n)) ∧ w = w' := by
 by_cases h : 0 < n
 · obtain ⟨m, rfl⟩ := Int.eq_ofNat_of_zero_le (show 0 ≤ n by omega)
   have e2 := bits_and_i64_nat m (m - 1) xo xo
   have e3 : pwB (m : Int) = (((m &&& (m - 1) : Nat) : Int) == 0) := by
    unfold pwB
    rw [decide_eq_true h, Bool.true_and, Int.toNat_natCast, Bool.eq_iff_iff]
    simp
   rw [e3]
   go_enter Tryd.func77, Tryd.ntmps77
   go_wp2
   go_ret
   refine ⟨?_, rfl⟩
   show Ending.returned (.bool _) = _
   rw [show (m : Int) - 1 = ((m - 1 : Nat) : Int) by omega, e2]
 · rw [pwB_neg xo]
   go_enter Tryd.func77, Tryd.ntmps77
   go_wp2
   go_ret
   exact ⟨rfl, rfl⟩
end
section
open Go.RowKit
theorem infoR_int64 : (Tryd.prog.info? 2).map (fun i => (i.zero, i.size, i.bytes)) = some (some (.int .i64 0), 1, 8) := by kernel_rfl
theorem Clone_int64 (ga : Option Addr) (gc : Nat) (xs : List Int) (w : World) (hg : IsRow .i64 w ga xs) (hl : xs.length ≤ 100000) :
    Calls Tryd.prog 61 #[.slice ga xs.length gc] w (FreshRow .i64 2 w xs) := by
 have q22 : ∀ (w : World) (a : Option Addr) (n c n' c' : Nat), (binOp .eql 25 (.slice a n c) (.slice none n' c')).run Tryd.prog w = .ok (.bool a.isNone) w := fun w a n c n' c' => Lib.run_eql_slice_nil w _ _ a n c n' c' Tryd.underlying25
 have HG := hid hg
 clear hg
 cases ga with
 | none =>
  have hx : xs = [] := row_none HG.out
  subst hx
  go_enter Tryd.func61, Tryd.ntmps61
  go_wp2
  go_ret
  exact ⟨_, rfl, World.ownsRow_nil _ _ _ _, Below.refl _ _⟩
 | some a =>
  have HN := hid (row_news HG.out)
  go_enter Tryd.func61, Tryd.ntmps61
  go_wp2_with (at_builtin; refine wpl_append (.tmp 5) (.tmp 6) 25 2 (.int .i64 0) 1 8 Tryd.underlying25 infoR_int64 rfl (by decide) (by decide) w.heap.size _ 0 [] (some a) xs.length gc (xs.map (Value.int .i64)) (World.ownsRow_made w #[] 0 (Nat.le_refl _) (Nat.zero_le _) rfl) (by simp) (fun h => by cases h) (fun ad h j u hj => Lib.cell?_alloc_some _ (HN.out ad h j u hj)) (numCells _) xo (by simp) rfl rfl rfl rfl ?_; intro v' w1 hown hgrow _)
  go_wp2
  go_ret
  refine ⟨v', rfl, by simpa using hown, ?_⟩
  exact ((Below.refl _ w).alloc (Nat.le_refl _) _).grown hgrow (by simp) (by intro k hk; simp [Value.ownBlock] at hk; omega)
theorem infoR_int : (Tryd.prog.info? 3).map (fun i => (i.zero, i.size, i.bytes)) = some (some (.int .i64 0), 1, 8) := by kernel_rfl
theorem Clone_int (ga : Option Addr) (gc : Nat) (xs : List Int) (w : World) (hg : IsRow .i64 w ga xs) (hl : xs.length ≤ 100000) :
    Calls Tryd.prog 62 #[.slice ga xs.length gc] w (FreshRow .i64 3 w xs) := by
 have q22 : ∀ (w : World) (a : Option Addr) (n c n' c' : Nat), (binOp .eql 26 (.slice a n c) (.slice none n' c')).run Tryd.prog w = .ok (.bool a.isNone) w := fun w a n c n' c' => Lib.run_eql_slice_nil w _ _ a n c n' c' Tryd.underlying26
 have HG := hid hg
 clear hg
 cases ga with
 | none =>
  have hx : xs = [] := row_none HG.out
  subst hx
  go_enter Tryd.func62, Tryd.ntmps62
  go_wp2
  go_ret
  exact ⟨_, rfl, World.ownsRow_nil _ _ _ _, Below.refl _ _⟩
 | some a =>
  have HN := hid (row_news HG.out)
  go_enter Tryd.func62, Tryd.ntmps62
  go_wp2_with (at_builtin; refine wpl_append (.tmp 5) (.tmp 6) 26 3 (.int .i64 0) 1 8 Tryd.underlying26 infoR_int rfl (by decide) (by decide) w.heap.size _ 0 [] (some a) xs.length gc (xs.map (Value.int .i64)) (World.ownsRow_made w #[] 0 (Nat.le_refl _) (Nat.zero_le _) rfl) (by simp) (fun h => by cases h) (fun ad h j u hj => Lib.cell?_alloc_some _ (HN.out ad h j u hj)) (numCells _) xo (by simp) rfl rfl rfl rfl ?_; intro v' w1 hown hgrow _)
  go_wp2
  go_ret
  refine ⟨v', rfl, by simpa using hown, ?_⟩
  exact ((Below.refl _ w).alloc (Nat.le_refl _) _).grown hgrow (by simp) (by intro k hk; simp [Value.ownBlock] at hk; omega)
end
end Go.Proofs.YtookgoidlnlckaaDoor

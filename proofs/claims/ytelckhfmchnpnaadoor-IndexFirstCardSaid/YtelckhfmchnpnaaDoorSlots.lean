/- Gapped arrays in plain words. No function of the program is walked here. -/
import Derived.Test.YtelckhfmchnpnaaDoorBits
import Derived.Test.YtelckhfmchnpnaaDoorHeapPlain
namespace Go.Proofs.YtelckhfmchnpnaaDoor
open Go.RowKit
set_option linter.unusedVariables false
set_option linter.unusedSimpArgs false

/-- is a number a power of two? -/
def pwB (n : Int) : Bool := decide (0 < n) && (n.toNat &&& (n.toNat - 1)) == 0
theorem pwB_iff {n : Nat} (h : 0 < n) : pwB (n : Int) = true ↔ 2 ^ n.log2 = n := by
  unfold pwB
  rw [Int.toNat_natCast, Bool.and_eq_true, decide_eq_true_eq, beq_iff_eq, Nat.and_sub_one_eq_zero_iff_isPowerOfTwo (by omega)]
  constructor
  · rintro ⟨-, k, rfl⟩
    rw [Nat.log2_two_pow]
  · intro e
    exact ⟨by omega, n.log2, e.symm⟩
theorem pwB_pow {n : Nat} (h : pwB (n : Int) = true) : ∃ k, n = 2 ^ k := by
  have h0 : 0 < n := by
    unfold pwB at h
    rw [Bool.and_eq_true, decide_eq_true_eq] at h
    omega
  exact ⟨n.log2, ((pwB_iff h0).1 h).symm⟩
theorem pwB_neg {n : Int} (h : n ≤ 0) : pwB n = false := by simp [pwB]; omega

/-- may a gapped array have so many slots, of such segments? -/
def fitB (seg many : Int) : Bool := decide (4 ≤ seg) && decide (seg ≤ 64) && pwB seg && decide (seg ≤ many) && decide (many ≤ 65536) && decide (many % seg = 0) && pwB (many / seg)

/-- what a gapped array has -/
structure SlC where
  seg : Int
  ws : List Int
  ks : List Int
  vs : List Int
  cs : List Int
  laid : Int
/-- where it lies -/
structure SlA where
  wa : Option Addr
  ka : Option Addr
  va : Option Addr
  ca : Option Addr
  wc : Nat
  kc : Nat
  vc : Nat
  cc : Nat
abbrev slV (c : SlC) (a : SlA) : Value := .agg #[.int .i64 c.seg, .slice a.wa c.ws.length a.wc, .slice a.ka c.ks.length a.kc, .slice a.va c.vs.length a.vc, .slice a.ca c.cs.length a.cc, .int .u64 c.laid]
structure SlIn (W : World) (c : SlC) (a : SlA) : Prop where
  w : IsRow .u64 W a.wa c.ws
  k : IsRow .i64 W a.ka c.ks
  v : IsRow .i64 W a.va c.vs
  n : IsRow .i64 W a.ca c.cs
  u : U64s c.ws
theorem SlIn.below {w w' : World} {c : SlC} {a : SlA} (h : SlIn w c a) (hb : Below w.heap.size w w') : SlIn w' c a := ⟨h.w.below hb, h.k.below hb, h.v.below hb, h.n.below hb, h.u⟩

/-- the occupied slots from one to another -/
def plsW (ws : List Int) (a b : Nat) : List Nat := (List.range' a (b - a)).filter (bitW ws)
def cntW (ws : List Int) (a b : Nat) : Nat := (List.range' a (b - a)).countP (bitW ws)
theorem plsW_length (ws : List Int) (a b : Nat) : (plsW ws a b).length = cntW ws a b := (List.countP_eq_length_filter ..).symm
theorem cntW_le (ws : List Int) (a b : Nat) : cntW ws a b ≤ b - a := by
  have := List.countP_le_length (p := bitW ws) (l := List.range' a (b - a))
  rwa [List.length_range'] at this
theorem plsW_mem {ws : List Int} {a b i : Nat} (h : i ∈ plsW ws a b) : a ≤ i ∧ i < b := by
  rw [plsW, List.mem_filter, List.mem_range'_1] at h
  omega
/-- words that may be an occupancy of so many slots -/
def wMayB (ws : List Int) (n : Nat) : Bool := decide (ws.length = (n + 63) / 64) && (List.range' n (64 * ws.length - n)).all fun i => !bitW ws i
def clrB (c : SlC) : Bool := (List.range c.ks.length).all fun i => bitW c.ws i || (c.ks.getD i 0 == 0 && c.vs.getD i 0 == 0)
def cntB (c : SlC) : Bool := (List.range c.cs.length).all fun k => c.cs.getD k 0 == (cntW c.ws (k * c.seg.toNat) ((k + 1) * c.seg.toNat) : Int)
def slHead (c : SlC) : Bool := fitB c.seg c.ks.length && decide (c.vs.length = c.ks.length) && wMayB c.ws c.ks.length && decide ((c.cs.length : Int) = c.ks.length / c.seg)
/-- a gapped array that may be -/
def slMay (c : SlC) : Bool := slHead c && clrB c && cntB c
def slE (c : SlC) : Int := if slMay c = true then 0 else 8

theorem fitB_facts {seg many : Int} (h : fitB seg many = true) : 4 ≤ seg ∧ seg ≤ 64 ∧ pwB seg = true ∧ seg ≤ many ∧ many ≤ 65536 ∧ many % seg = 0 ∧ pwB (many / seg) = true := by
  simp only [fitB, Bool.and_eq_true, decide_eq_true_eq] at h
  obtain ⟨⟨⟨⟨⟨⟨h1, h2⟩, h3⟩, h4⟩, h5⟩, h6⟩, h7⟩ := h
  exact ⟨h1, h2, h3, h4, h5, h6, h7⟩
/-- an array that may be, in numbers: segments, slots -/
theorem slHead_facts {c : SlC} (h : slHead c = true) : ∃ S M : Nat, c.seg = S ∧ 4 ≤ S ∧ S ≤ 64 ∧ c.ks.length = S * M ∧ c.vs.length = S * M ∧ c.cs.length = M ∧ 1 ≤ M ∧ S * M ≤ 65536 ∧ M ≤ 16384 ∧ c.ws.length = (S * M + 63) / 64 ∧ pwB (S : Int) = true ∧ pwB (M : Int) = true ∧ ∀ i, S * M ≤ i → bitW c.ws i = false := by
  simp only [slHead, Bool.and_eq_true, decide_eq_true_eq] at h
  obtain ⟨⟨⟨h1, h2⟩, h3⟩, h4⟩ := h
  obtain ⟨f1, f2, f3, f4, f5, f6, f7⟩ := fitB_facts h1
  simp only [wMayB, Bool.and_eq_true, decide_eq_true_eq] at h3
  obtain ⟨h5, h6⟩ := h3
  obtain ⟨S, hS⟩ : ∃ S : Nat, c.seg = S := ⟨c.seg.toNat, by omega⟩
  rw [hS] at f1 f2 f3 f4 f6 f7 h4
  have hn : c.ks.length = S * c.cs.length := by
    have e := Int.emod_add_mul_ediv (c.ks.length : Int) S
    rw [f6, ← h4] at e
    have e2 : ((S * c.cs.length : Nat) : Int) = (c.ks.length : Int) := by push_cast; omega
    omega
  rw [← h4] at f7
  have hM : 1 ≤ c.cs.length := by
    rcases Nat.eq_zero_or_pos c.cs.length with e | e
    · rw [e] at f7; cases f7
    · exact e
  have hM2 : c.cs.length ≤ 16384 := by
    have h9 : 4 * c.cs.length ≤ S * c.cs.length := Nat.mul_le_mul_right _ (by omega)
    omega
  refine ⟨S, c.cs.length, hS, by omega, by omega, hn, by omega, rfl, hM, by omega, hM2, by rw [← hn]; exact h5, f3, f7, fun i hi => ?_⟩
  by_cases hi2 : i < 64 * c.ws.length
  · have := List.all_eq_true.1 h6 i (List.mem_range'_1.2 (by omega))
    simpa using this
  · rw [bitW, List.getD_eq_getElem?_getD, List.getElem?_eq_none (by omega)]
    exact bitI_zero _
/-- the pairs of a part -/
def prs (c : SlC) (a b : Nat) : List (Int × Int) := (plsW c.ws a b).map fun i => (c.ks.getD i 0, c.vs.getD i 0)
end Go.Proofs.YtelckhfmchnpnaaDoor

/- Gapped arrays that are taken from and laid into, in plain words: they stay such that may be; places, pairs spread over a part. No function of the program is walked here. -/
import Derived.Test.YtookgoidlnlckaaSlPut
import Derived.Laws.BitsAllLaws
namespace Go.Proofs.Ytookgoidlnlckaa
open Go Go.RowKit
set_option linter.unusedVariables false
set_option linter.unusedSimpArgs false

theorem wrap_two {r : Nat} (hr : r < 64) : IntKind.u64.wrap (2 ^ r) = ((2 ^ r : Nat) : Int) := by
  have h : 2 ^ r < 2 ^ 64 := Nat.pow_lt_pow_right (by omega) hr
  have e : (2 : Int) ^ r = ((2 ^ r : Nat) : Int) := by push_cast; rfl
  rw [e, IntKind.wrap_u64, Int.emod_eq_of_lt (Int.natCast_nonneg _) (by omega)]
theorem clrX_nat {x r : Nat} (hx : x < 18446744073709551616) (hr : r < 64) : clrX (x : Int) r = ((x &&& (2 ^ 64 - (2 ^ r + 1)) : Nat) : Int) := by
  have h : 2 ^ r < 2 ^ 64 := Nat.pow_lt_pow_right (by omega) hr
  rw [clrX, wrap_two hr, u64_andNot_nat _ _ hx (by omega), show 18446744073709551615 - 2 ^ r = 2 ^ 64 - (2 ^ r + 1) by omega]
theorem setX_nat {x r : Nat} (hx : x < 18446744073709551616) (hr : r < 64) : setX (x : Int) r = ((x ||| 2 ^ r : Nat) : Int) := by
  have h : 2 ^ r < 2 ^ 64 := Nat.pow_lt_pow_right (by omega) hr
  rw [setX, wrap_two hr, u64_or_nat _ _ hx (by omega)]
theorem bitI_clr {x : Int} {r : Nat} (h0 : 0 ≤ x) (h1 : x < 18446744073709551616) (hr : r < 64) (k : Nat) : bitI (clrX x r) k = (bitI x k && decide (k ≠ r)) := by
  obtain ⟨n, rfl⟩ := Int.eq_ofNat_of_zero_le h0
  have h : 2 ^ r < 2 ^ 64 := Nat.pow_lt_pow_right (by omega) hr
  rw [clrX_nat (by omega) hr, bitI_nat, bitI_nat, Nat.testBit_and, Nat.testBit_two_pow_sub_succ h, Nat.testBit_two_pow]
  by_cases hk : k < 64
  · by_cases hkr : r = k
    · subst hkr; simp
    · have : k ≠ r := fun e => hkr e.symm
      simp [hk, hkr, this]
  · have : n.testBit k = false := by
      have := bitI_high (x := (n : Int)) h1 (k := k) (by omega)
      rwa [bitI_nat] at this
    simp [this]
theorem bitI_set {x : Int} {r : Nat} (h0 : 0 ≤ x) (h1 : x < 18446744073709551616) (hr : r < 64) (k : Nat) : bitI (setX x r) k = (bitI x k || decide (k = r)) := by
  obtain ⟨n, rfl⟩ := Int.eq_ofNat_of_zero_le h0
  rw [setX_nat (by omega) hr, bitI_nat, bitI_nat, Nat.testBit_or, Nat.testBit_two_pow]
  by_cases hkr : r = k
  · subst hkr; simp
  · have : k ≠ r := fun e => hkr e.symm
    simp [hkr, this]
theorem clrX_bd {x : Int} {r : Nat} (h0 : 0 ≤ x) (h1 : x < 18446744073709551616) (hr : r < 64) : 0 ≤ clrX x r ∧ clrX x r < 18446744073709551616 := by
  obtain ⟨n, rfl⟩ := Int.eq_ofNat_of_zero_le h0
  rw [clrX_nat (by omega) hr]
  have := Nat.and_le_left (n := n) (m := 2 ^ 64 - (2 ^ r + 1))
  omega
theorem setX_bd {x : Int} {r : Nat} (h0 : 0 ≤ x) (h1 : x < 18446744073709551616) (hr : r < 64) : 0 ≤ setX x r ∧ setX x r < 18446744073709551616 := by
  obtain ⟨n, rfl⟩ := Int.eq_ofNat_of_zero_le h0
  rw [setX_nat (by omega) hr]
  have h : 2 ^ r < 2 ^ 64 := Nat.pow_lt_pow_right (by omega) hr
  have := Nat.or_lt_two_pow (x := n) (y := 2 ^ r) (n := 64) (by omega) h
  omega
/-- a bit is added where it is not -/
theorem add_setX {x : Int} {r : Nat} (h0 : 0 ≤ x) (h1 : x < 18446744073709551616) (hr : r < 64) (hb : bitI x r = false) : x + 2 ^ r = setX x r := by
  obtain ⟨n, rfl⟩ := Int.eq_ofNat_of_zero_le h0
  have h : 2 ^ r < 2 ^ 64 := Nat.pow_lt_pow_right (by omega) hr
  rw [setX_nat (by omega) hr]
  have e : (2 : Int) ^ r = ((2 ^ r : Nat) : Int) := by push_cast; rfl
  rw [e]
  have ho := Nat.or_lt_two_pow (x := n) (y := 2 ^ r) (n := 64) (by omega) h
  have hand : n &&& 2 ^ r = 0 := by
    apply Nat.eq_of_testBit_eq
    intro i
    rw [Nat.testBit_and, Nat.testBit_two_pow, Nat.zero_testBit]
    by_cases hi : r = i
    · subst hi
      rw [bitI_nat] at hb
      simp [hb]
    · simp [hi]
  have hbv := BitVec.add_eq_or_of_and_eq_zero (BitVec.ofNat 64 n) (BitVec.ofNat 64 (2 ^ r)) (by
    apply BitVec.eq_of_toNat_eq
    rw [BitVec.toNat_and, BitVec.toNat_ofNat, BitVec.toNat_ofNat, Nat.mod_eq_of_lt (by omega), Nat.mod_eq_of_lt h, hand]
    rfl)
  have hn := congrArg BitVec.toNat hbv
  rw [BitVec.toNat_add, BitVec.toNat_or, BitVec.toNat_ofNat, BitVec.toNat_ofNat, Nat.mod_eq_of_lt (by omega : n < 2 ^ 64), Nat.mod_eq_of_lt h] at hn
  have hge : 2 ^ r ≤ n ||| 2 ^ r := Nat.right_le_or
  have : n + 2 ^ r = n ||| 2 ^ r := by
    rcases Nat.lt_or_ge (n + 2 ^ r) (2 ^ 64) with q | q
    · rwa [Nat.mod_eq_of_lt q] at hn
    · rw [Nat.mod_eq_sub_mod q, Nat.mod_eq_of_lt (by omega)] at hn
      omega
  omega
/-- a bit is taken off where it is -/
theorem sub_clrX {x : Int} {r : Nat} (h0 : 0 ≤ x) (h1 : x < 18446744073709551616) (hr : r < 64) (hb : bitI x r = true) : x - 2 ^ r = clrX x r := by
  obtain ⟨c0, c1⟩ := clrX_bd h0 h1 hr
  have hs := add_setX c0 c1 hr (by rw [bitI_clr h0 h1 hr]; simp)
  obtain ⟨s0, s1⟩ := setX_bd c0 c1 hr
  have : setX (clrX x r) r = x := by
    apply int_eq_of_bits s0 h0
    intro k
    rw [bitI_set c0 c1 hr, bitI_clr h0 h1 hr]
    by_cases hk : k = r
    · subst hk; simp [hb]
    · simp [hk]
  omega
theorem getD_set_at (l : List Int) (i j : Nat) (v : Int) : (l.set i v).getD j 0 = if i = j ∧ i < l.length then v else l.getD j 0 := by
  rw [List.getD_eq_getElem?_getD, List.getD_eq_getElem?_getD, List.getElem?_set]
  by_cases h : i = j
  · subst h
    by_cases h2 : i < l.length
    · simp [h2]
    · simp [h2]
  · simp [h]
theorem bitW_clr {ws : List Int} (hu : U64s ws) {i : Nat} (hi : i / 64 < ws.length) (j : Nat) : bitW (clrL ws i) j = (bitW ws j && decide (j ≠ i)) := by
  have hg := hu.get (i / 64)
  rw [bitW, clrL, getD_set_at]
  by_cases h : i / 64 = j / 64
  · rw [if_pos ⟨h, hi⟩, bitI_clr hg.1 hg.2 (Nat.mod_lt _ (by omega)), h, bitW]
    congr 1
    rw [decide_eq_decide]
    omega
  · rw [if_neg (fun q => h q.1), bitW]
    have : j ≠ i := fun e => h (by rw [e])
    simp [this]
theorem bitW_set {ws : List Int} (hu : U64s ws) {i : Nat} (hi : i / 64 < ws.length) (j : Nat) : bitW (setL ws i) j = (bitW ws j || decide (j = i)) := by
  have hg := hu.get (i / 64)
  rw [bitW, setL, getD_set_at]
  by_cases h : i / 64 = j / 64
  · rw [if_pos ⟨h, hi⟩, bitI_set hg.1 hg.2 (Nat.mod_lt _ (by omega)), h, bitW]
    congr 1
    rw [decide_eq_decide]
    omega
  · rw [if_neg (fun q => h q.1), bitW]
    have : j ≠ i := fun e => h (by rw [e])
    simp [this]
theorem U64s_clr {ws : List Int} (hu : U64s ws) (i : Nat) : U64s (clrL ws i) := by
  intro x hx
  rcases List.mem_or_eq_of_mem_set hx with h | rfl
  · exact hu x h
  · have hg := hu.get (i / 64)
    exact clrX_bd hg.1 hg.2 (Nat.mod_lt _ (by omega))
theorem U64s_set {ws : List Int} (hu : U64s ws) (i : Nat) : U64s (setL ws i) := by
  intro x hx
  rcases List.mem_or_eq_of_mem_set hx with h | rfl
  · exact hu x h
  · have hg := hu.get (i / 64)
    exact setX_bd hg.1 hg.2 (Nat.mod_lt _ (by omega))
theorem set_getD_self (l : List Int) (i : Nat) : l.set i (l.getD i 0) = l := by
  apply List.ext_getElem? fun j => ?_
  rw [List.getElem?_set]
  by_cases h : i = j
  · subst h
    rw [if_pos rfl]
    by_cases h2 : i < l.length
    · simp [h2, List.getD_eq_getElem?_getD]
    · rw [if_neg h2, List.getElem?_eq_none (by omega)]
  · rw [if_neg h]
theorem clrL_same {ws : List Int} (hu : U64s ws) {i : Nat} (hb : bitW ws i = false) : clrL ws i = ws := by
  have hg := hu.get (i / 64)
  have hr : i % 64 < 64 := Nat.mod_lt _ (by omega)
  have hc := clrX_bd hg.1 hg.2 hr
  rw [clrL]
  have : clrX (ws.getD (i / 64) 0) (i % 64) = ws.getD (i / 64) 0 := by
    apply int_eq_of_bits hc.1 hg.1
    intro k
    rw [bitI_clr hg.1 hg.2 hr]
    by_cases hk : k = i % 64
    · subst hk
      rw [bitW] at hb
      rw [hb]
      rfl
    · simp [hk]
  rw [this, set_getD_self]
/-- one more, one less of a range that is so -/
theorem countP_flip {p q : Nat → Bool} {i : Nat} (hp : p i = true) (hq : q i = false) (he : ∀ j, j ≠ i → q j = p j) : ∀ (d a : Nat), (List.range' a d).countP p = (List.range' a d).countP q + if a ≤ i ∧ i < a + d then 1 else 0 := by
  intro d
  induction d with
  | zero => intro a; simp
  | succ d ih =>
    intro a
    rw [List.range'_succ, List.countP_cons, List.countP_cons, ih (a + 1)]
    by_cases h : a = i
    · subst h
      have e1 : ¬ (a + 1 ≤ a ∧ a < a + 1 + d) := by omega
      have e2 : a ≤ a ∧ a < a + (d + 1) := by omega
      rw [hp, hq, if_neg e1, if_pos e2]
      simp
    · rw [he a h]
      by_cases h2 : a + 1 ≤ i ∧ i < a + 1 + d
      · have e2 : a ≤ i ∧ i < a + (d + 1) := by omega
        rw [if_pos h2, if_pos e2]; omega
      · have e2 : ¬ (a ≤ i ∧ i < a + (d + 1)) := by omega
        rw [if_neg h2, if_neg e2]; omega
theorem cntW_clr {ws : List Int} (hu : U64s ws) {i : Nat} (hi : i / 64 < ws.length) (hb : bitW ws i = true) (a b : Nat) : cntW ws a b = cntW (clrL ws i) a b + if a ≤ i ∧ i < b then 1 else 0 := by
  rw [cntW, cntW, countP_flip (p := bitW ws) (q := bitW (clrL ws i)) hb (by rw [bitW_clr hu hi]; simp) (fun j hj => by rw [bitW_clr hu hi]; simp [hj])]
  congr 1
  by_cases h : a ≤ i ∧ i < b
  · rw [if_pos (by omega), if_pos h]
  · rw [if_neg (by omega), if_neg h]
theorem cntW_set {ws : List Int} (hu : U64s ws) {i : Nat} (hi : i / 64 < ws.length) (hb : bitW ws i = false) (a b : Nat) : cntW (setL ws i) a b = cntW ws a b + if a ≤ i ∧ i < b then 1 else 0 := by
  rw [cntW, cntW, countP_flip (p := bitW (setL ws i)) (q := bitW ws) (by rw [bitW_set hu hi]; simp) hb (fun j hj => by rw [bitW_set hu hi]; simp [hj])]
  congr 1
  by_cases h : a ≤ i ∧ i < b
  · rw [if_pos (by omega), if_pos h]
  · rw [if_neg (by omega), if_neg h]

/-- a gapped array that may be, in numbers -/
structure SlGd (c : SlC) (S lw n lc : Nat) : Prop where
  seg : c.seg = S
  elw : c.ws.length = lw
  elk : c.ks.length = n
  elv : c.vs.length = n
  elc : c.cs.length = lc
  s4 : 4 ≤ S
  s64 : S ≤ 64
  cn : n = S * lc
  wn : n ≤ 64 * lw
  n1 : 1 ≤ n
  nm : n ≤ 65536
  u : U64s c.ws
  cnt : ∀ k, k < lc → c.cs.getD k 0 = (cntW c.ws (k * S) ((k + 1) * S) : Int)
  hi : ∀ i, n ≤ i → bitW c.ws i = false
  clr : ∀ i, bitW c.ws i = false → c.ks.getD i 0 = 0 ∧ c.vs.getD i 0 = 0
theorem SlGd.ok {c : SlC} {S lw n lc : Nat} (h : SlGd c S lw n lc) : okC c = true := by
  simp only [okC, Bool.and_eq_true, List.all_eq_true, decide_eq_true_eq]
  refine ⟨fun x hx => h.u x hx, fun x hx => ?_⟩
  obtain ⟨k, hk, rfl⟩ := List.mem_iff_getElem.1 hx
  have := h.cnt k (by rw [← h.elc]; exact hk)
  rw [List.getD_eq_getElem?_getD, List.getElem?_eq_getElem hk, Option.getD_some] at this
  have h2 := cntW_le c.ws (k * S) ((k + 1) * S)
  rw [show (k + 1) * S - k * S = S by rw [Nat.succ_mul]; omega] at h2
  have := h.s64
  omega
theorem seg_in {S i k : Nat} (hS : 4 ≤ S) : (k * S ≤ i ∧ i < (k + 1) * S) ↔ i / S = k := by
  constructor
  · rintro ⟨h1, h2⟩
    apply Nat.le_antisymm
    · exact Nat.le_of_lt_succ ((Nat.div_lt_iff_lt_mul (by omega)).2 h2)
    · exact (Nat.le_div_iff_mul_le (by omega)).2 h1
  · rintro rfl
    exact ⟨Nat.div_mul_le_self _ _, by rw [Nat.succ_mul]; have e := Nat.div_add_mod i S; have := Nat.mod_lt i (show 0 < S by omega); rw [Nat.mul_comm] at e; omega⟩
theorem SlGd.tk {c : SlC} {S lw n lc : Nat} (h : SlGd c S lw n lc) {i : Nat} (hi : i < n) : SlGd (tkC c i) S lw n lc := by
  have hq : i / 64 < c.ws.length := by rw [h.elw]; have := h.wn; omega
  have hs : i / S < lc := (Nat.div_lt_iff_lt_mul (by have := h.s4; omega)).2 (by rw [Nat.mul_comm, ← h.cn]; exact hi)
  have hseg : c.seg.toNat = S := by rw [h.seg]; rfl
  refine ⟨h.seg, ?_, ?_, ?_, ?_, h.s4, h.s64, h.cn, h.wn, h.n1, h.nm, U64s_clr h.u i, ?_, ?_, ?_⟩
  · simp [tkC, clrL, h.elw]
  · simp [tkC, h.elk]
  · simp [tkC, h.elv]
  · simp only [tkC]
    split
    · rw [List.length_set]; exact h.elc
    · exact h.elc
  · intro k hk
    simp only [tkC]
    rw [hseg]
    cases hb : bitW c.ws i with
    | true =>
      have e := cntW_clr h.u hq hb (k * S) ((k + 1) * S)
      rw [if_pos rfl, getD_set_at, h.elc]
      by_cases hki : i / S = k
      · subst hki
        rw [if_pos ((seg_in h.s4).2 rfl)] at e
        rw [if_pos ⟨rfl, hk⟩, h.cnt _ hk, e]
        omega
      · rw [if_neg (fun q => hki ((seg_in h.s4).1 q))] at e
        rw [if_neg (fun q => hki q.1), h.cnt _ hk, e]
        omega
    | false =>
      rw [if_neg (by decide), clrL_same h.u hb, h.cnt k hk]
  · intro j hj
    simp only [tkC]
    rw [bitW_clr h.u hq, h.hi j hj]
    rfl
  · intro j hj
    simp only [tkC] at hj ⊢
    rw [bitW_clr h.u hq] at hj
    rw [getD_set_at, getD_set_at, h.elk, h.elv]
    by_cases hji : i = j
    · subst hji
      simp [hi]
    · rw [if_neg (fun q => hji q.1), if_neg (fun q => hji q.1)]
      apply h.clr
      have : j ≠ i := fun e => hji e.symm
      simpa [this] using hj
theorem tk_bit {c : SlC} {S lw n lc : Nat} (h : SlGd c S lw n lc) {i : Nat} (hi : i < n) (j : Nat) : bitW (tkC c i).ws j = (bitW c.ws j && decide (j ≠ i)) :=
  bitW_clr h.u (by rw [h.elw]; have := h.wn; omega) j
theorem SlGd.ly {c : SlC} {S lw n lc : Nat} (h : SlGd c S lw n lc) {i : Nat} (hi : i < n) (key val : Int) : SlGd (lyC c i key val) S lw n lc := by
  have g := h.tk hi
  have hq : i / 64 < (tkC c i).ws.length := by rw [g.elw]; have := h.wn; omega
  have hseg : c.seg.toNat = S := by rw [h.seg]; rfl
  have hb : bitW (tkC c i).ws i = false := by rw [tk_bit h hi]; simp
  have hs : i / S < lc := (Nat.div_lt_iff_lt_mul (by have := h.s4; omega)).2 (by rw [Nat.mul_comm, ← h.cn]; exact hi)
  refine ⟨h.seg, ?_, ?_, ?_, ?_, h.s4, h.s64, h.cn, h.wn, h.n1, h.nm, U64s_set g.u i, ?_, ?_, ?_⟩
  · simp only [lyC, setL, List.length_set]; exact g.elw
  · simp only [lyC, List.length_set]; exact g.elk
  · simp only [lyC, List.length_set]; exact g.elv
  · simp only [lyC, List.length_set]; exact g.elc
  · intro k hk
    simp only [lyC]
    rw [hseg]
    have e := cntW_set g.u hq hb (k * S) ((k + 1) * S)
    rw [getD_set_at, g.elc, e]
    by_cases hki : i / S = k
    · subst hki
      rw [if_pos ⟨rfl, hk⟩, if_pos ((seg_in h.s4).2 rfl), g.cnt _ hk]
      push_cast
      rfl
    · rw [if_neg (fun q => hki q.1), if_neg (fun q => hki ((seg_in h.s4).1 q)), g.cnt _ hk]
      simp
  · intro j hj
    simp only [lyC]
    rw [bitW_set g.u hq, g.hi j hj]
    simp
    omega
  · intro j hj
    simp only [lyC] at hj ⊢
    rw [bitW_set g.u hq] at hj
    have hji : ¬ i = j := by
      intro e
      subst e
      simp at hj
    rw [getD_set_at, getD_set_at, if_neg (fun q => hji q.1), if_neg (fun q => hji q.1)]
    apply g.clr
    simp only [Bool.or_eq_false_iff] at hj
    exact hj.1
theorem ly_bit {c : SlC} {S lw n lc : Nat} (h : SlGd c S lw n lc) {i : Nat} (hi : i < n) (key val : Int) (j : Nat) : bitW (lyC c i key val).ws j = (bitW c.ws j || decide (j = i)) := by
  have g := h.tk hi
  simp only [lyC]
  rw [bitW_set g.u (by rw [g.elw]; have := h.wn; omega), tk_bit h hi]
  by_cases hj : j = i
  · simp [hj]
  · simp [hj]
theorem SlGd.tks {c : SlC} {S lw n lc lo : Nat} (h : SlGd c S lw n lc) : ∀ j, lo + j ≤ n → SlGd (tks c lo j) S lw n lc
  | 0, _ => h
  | j + 1, hj => (SlGd.tks h j (by omega)).tk (by omega)
theorem tks_bit {c : SlC} {S lw n lc lo : Nat} (h : SlGd c S lw n lc) (i : Nat) : ∀ j, lo + j ≤ n → bitW (Go.Proofs.Ytookgoidlnlckaa.tks c lo j).ws i = (bitW c.ws i && !(decide (lo ≤ i) && decide (i < lo + j)))
  | 0, _ => by
    have : (decide (lo ≤ i) && decide (i < lo + 0)) = false := by simp
    rw [this]; simp [Go.Proofs.Ytookgoidlnlckaa.tks]
  | j + 1, hj => by
    rw [Go.Proofs.Ytookgoidlnlckaa.tks, tk_bit (h.tks j (by omega)) (by omega), tks_bit h i j (by omega)]
    by_cases hi : i = lo + j
    · subst hi; simp
    · have e : (decide (i < lo + (j + 1))) = decide (i < lo + j) := by rw [decide_eq_decide]; omega
      rw [e]
      simp [hi]
theorem SlGd.lys {c : SlC} {S lw n lc : Nat} (h : SlGd c S lw n lc) {ps : List Nat} (hp : ∀ k, ps.getD k 0 < n) (L : List (Int × Int)) : ∀ k, SlGd (lys c ps L k) S lw n lc
  | 0 => h
  | k + 1 => (SlGd.lys h hp L k).ly (hp k) _ _
theorem lys_bit {c : SlC} {S lw n lc : Nat} (h : SlGd c S lw n lc) {ps : List Nat} (hp : ∀ k, ps.getD k 0 < n) (L : List (Int × Int)) (i : Nat) : ∀ k, bitW (Go.Proofs.Ytookgoidlnlckaa.lys c ps L k).ws i = true ↔ bitW c.ws i = true ∨ ∃ j, j < k ∧ ps.getD j 0 = i
  | 0 => by simp [Go.Proofs.Ytookgoidlnlckaa.lys]
  | k + 1 => by
    rw [Go.Proofs.Ytookgoidlnlckaa.lys, ly_bit (h.lys hp L k) (hp k), Bool.or_eq_true, lys_bit h hp L i k, decide_eq_true_eq]
    constructor
    · rintro ((h1 | ⟨j, h1, h2⟩) | h1)
      · exact Or.inl h1
      · exact Or.inr ⟨j, by omega, h2⟩
      · exact Or.inr ⟨k, by omega, h1.symm⟩
    · rintro (h1 | ⟨j, h1, h2⟩)
      · exact Or.inl (Or.inl h1)
      · rcases Nat.lt_or_ge j k with q | q
        · exact Or.inl (Or.inr ⟨j, q, h2⟩)
        · obtain rfl : j = k := by omega
          exact Or.inr h2.symm
/-- an array that may be, and its numbers -/
theorem slMay_gd {c : SlC} (hu : U64s c.ws) (h : slMay c = true) : ∃ S M : Nat, SlGd c S ((S * M + 63) / 64) (S * M) M ∧ pwB (S : Int) = true ∧ pwB (M : Int) = true ∧ 1 ≤ M := by
  have hm := h
  simp only [slMay, Bool.and_eq_true] at h
  obtain ⟨⟨h5, h6⟩, h7⟩ := h
  obtain ⟨S, M, e1, b1, b2, b3, b4, b5, b6, b7, b8, b9, p1, p2, b10⟩ := slHead_facts h5
  have hn1 : 1 ≤ S * M := Nat.mul_pos (by omega) b6
  refine ⟨S, M, ⟨e1, b9, b3, b4, b5, b1, b2, rfl, by omega, hn1, b7, hu, ?_, b10, ?_⟩, p1, p2, b6⟩
  · intro k hk
    have := List.all_eq_true.1 h7 k (List.mem_range.2 (by rw [b5]; exact hk))
    rw [beq_iff_eq, e1, Int.toNat_natCast] at this
    exact this
  · intro i hi
    rcases Nat.lt_or_ge i c.ks.length with q | q
    · have := List.all_eq_true.1 h6 i (List.mem_range.2 q)
      rw [hi, Bool.false_or, Bool.and_eq_true, beq_iff_eq, beq_iff_eq] at this
      exact this
    · rw [List.getD_eq_getElem?_getD, List.getD_eq_getElem?_getD, List.getElem?_eq_none q, List.getElem?_eq_none (by omega)]
      exact ⟨rfl, rfl⟩
/-- what the reference does to a slot: it is emptied; a pair is laid into an empty one -/
def rtC (c : SlC) (i : Nat) : SlC := if bitW c.ws i = true then ⟨c.seg, clrL c.ws i, c.ks.set i 0, c.vs.set i 0, c.cs.set (i / c.seg.toNat) (c.cs.getD (i / c.seg.toNat) 0 - 1), c.laid⟩ else ⟨c.seg, c.ws, c.ks.set i 0, c.vs.set i 0, c.cs, c.laid⟩
def rlC (c : SlC) (i : Nat) (key val : Int) : SlC := ⟨c.seg, setL c.ws i, c.ks.set i key, c.vs.set i val, c.cs.set (i / c.seg.toNat) (c.cs.getD (i / c.seg.toNat) 0 + 1), IntKind.u64.wrap (c.laid + 1)⟩
theorem rtC_eq {c : SlC} (hu : U64s c.ws) (i : Nat) : rtC c i = tkC c i := by
  unfold rtC tkC
  cases hb : bitW c.ws i with
  | true => simp
  | false => simp [clrL_same hu hb]
theorem rlC_eq {c : SlC} (hu : U64s c.ws) {i : Nat} (hb : bitW c.ws i = false) (key val : Int) : rlC c i key val = lyC c i key val := by
  unfold rlC lyC tkC
  simp [hb, clrL_same hu hb]
/-- the places of n things over slots -/
def plF (n lo hi k : Nat) : Nat := lo + k * (hi - lo) / n
def plR (n lo hi : Nat) : List Nat := (List.range n).map (plF n lo hi)
theorem plR_length (n lo hi : Nat) : (plR n lo hi).length = n := by simp [plR]
theorem plR_get {n lo hi k : Nat} (h : k < n) : (plR n lo hi).getD k 0 = plF n lo hi k := by
  rw [List.getD_eq_getElem?_getD, plR, List.getElem?_map, List.getElem?_range h]
  rfl
theorem plF_step {n lo hi : Nat} (k : Nat) (h0 : 0 < n) (h : n ≤ hi - lo) : plF n lo hi k < plF n lo hi (k + 1) := by
  unfold plF
  have : k * (hi - lo) / n + 1 ≤ (k + 1) * (hi - lo) / n := by
    rw [← Nat.add_div_right _ h0, Nat.succ_mul]
    exact Nat.div_le_div_right (by omega)
  omega
theorem plF_mono {n lo hi : Nat} (h0 : 0 < n) (h : n ≤ hi - lo) (j : Nat) : ∀ d, plF n lo hi j < plF n lo hi (j + (d + 1))
  | 0 => plF_step j h0 h
  | d + 1 => Nat.lt_trans (plF_mono h0 h j d) (plF_step _ h0 h)
theorem plF_lt {n lo hi k : Nat} (hk : k < n) (h : n ≤ hi - lo) : plF n lo hi k < hi := by
  unfold plF
  have : k * (hi - lo) / n < hi - lo := by
    rw [Nat.div_lt_iff_lt_mul (by omega), Nat.mul_comm]
    exact (Nat.mul_lt_mul_left (by omega)).2 hk
  omega
theorem plR_pv {n lo hi k : Nat} (hk : k < n) (h : n ≤ hi - lo) : pvF (plR n lo hi) lo k < ((plR n lo hi).getD k 0 : Nat) ∧ (plR n lo hi).getD k 0 < hi := by
  rw [plR_get hk]
  refine ⟨?_, plF_lt hk h⟩
  unfold pvF
  split
  · have : lo ≤ plF n lo hi k := Nat.le_add_right _ _
    omega
  · rw [plR_get (by omega)]
    have := plF_step (lo := lo) (k - 1) (by omega) h
    rw [show k - 1 + 1 = k by omega] at this
    omega
theorem plR_ltn {n lo hi N : Nat} (h : n ≤ hi - lo) (hh : hi ≤ N) (hN : 0 < N) (k : Nat) : (plR n lo hi).getD k 0 < N := by
  rcases Nat.lt_or_ge k n with q | q
  · rw [plR_get q]
    have := plF_lt (lo := lo) q h
    omega
  · rw [List.getD_eq_getElem?_getD, List.getElem?_eq_none (by rw [plR_length]; exact q)]
    exact hN
/-- pairs spread over a part -/
def spC (c : SlC) (lo hi : Nat) (L : List (Int × Int)) : SlC := lys (tks c lo (hi - lo)) (plR L.length lo hi) L L.length
theorem SlGd.sp {c : SlC} {S lw n lc lo hi : Nat} (h : SlGd c S lw n lc) (hlo : lo ≤ hi) (hh : hi ≤ n) {L : List (Int × Int)} (hL : L.length ≤ hi - lo) : SlGd (spC c lo hi L) S lw n lc :=
  SlGd.lys (h.tks (hi - lo) (by omega)) (fun k => plR_ltn hL hh (by have := h.n1; omega) k) L _
/-- a place is empty when its pair is laid -/
theorem lys_free {c : SlC} {S lw n lc lo hi : Nat} (h : SlGd c S lw n lc) (hlo : lo ≤ hi) (hh : hi ≤ n) {L : List (Int × Int)} (hL : L.length ≤ hi - lo) {k : Nat} (hk : k < L.length) : bitW (lys (tks c lo (hi - lo)) (plR L.length lo hi) L k).ws ((plR L.length lo hi).getD k 0) = false := by
  rw [Bool.eq_false_iff]
  intro hb
  have hn := h.n1
  rcases (lys_bit (h.tks (hi - lo) (by omega)) (fun k => plR_ltn hL hh (by omega) k) L _ k).1 hb with q | ⟨j, hj, q⟩
  · rw [tks_bit h _ _ (by omega), Bool.and_eq_true] at q
    have h1 := plR_pv (lo := lo) hk hL
    have h2 : lo ≤ (plR L.length lo hi).getD k 0 := by
      rw [plR_get hk]
      exact Nat.le_add_right _ _
    have : (decide (lo ≤ (plR L.length lo hi).getD k 0) && decide ((plR L.length lo hi).getD k 0 < lo + (hi - lo))) = true := by
      rw [Bool.and_eq_true, decide_eq_true_eq, decide_eq_true_eq]
      omega
    rw [this] at q
    simp at q
  · rw [plR_get hk, plR_get (by omega)] at q
    have := plF_mono (lo := lo) (by omega) hL j (k - j - 1)
    rw [show j + (k - j - 1 + 1) = k by omega] at this
    omega
/-- an empty array -/
theorem zero_gd {S M lw : Nat} (h4 : 4 ≤ S) (h6 : S ≤ 64) (hM : 1 ≤ M) (hm : S * M ≤ 65536) (hl : lw = (S * M + 63) / 64) : SlGd (zeroSl S (S * M) lw M) S lw (S * M) M := by
  have z : ∀ m i, (List.replicate m (0 : Int)).getD i 0 = 0 := fun m i => by
    rw [List.getD_eq_getElem?_getD, List.getElem?_replicate]
    split <;> rfl
  have zb : ∀ i, bitW (zeroSl S (S * M) lw M).ws i = false := fun i => by
    rw [bitW, zeroSl]
    dsimp only
    rw [z]
    exact bitI_zero _
  have zc : ∀ a d, (List.range' a d).countP (bitW (zeroSl S (S * M) lw M).ws) = 0 := fun a d => by
    rw [List.countP_eq_zero]
    intro i _
    rw [zb i]
    decide
  have hn1 : 1 ≤ S * M := Nat.mul_pos (by omega) hM
  refine ⟨rfl, by simp [zeroSl], by simp [zeroSl], by simp [zeroSl], by simp [zeroSl], h4, h6, rfl, by omega, hn1, hm, ?_, ?_, fun i _ => zb i, ?_⟩
  · intro x hx
    obtain ⟨-, rfl⟩ := List.mem_replicate.1 hx
    omega
  · intro k hk
    rw [cntW, zc]
    simp only [zeroSl]
    rw [z]
    rfl
  · intro i _
    exact ⟨z _ _, z _ _⟩
end Go.Proofs.Ytookgoidlnlckaa

/- Merged: GapCk, Ref05, Ref09, Ref09C, GapLd, Tz, NthPl, WndPl, PutPl, TakPl. -/
import Derived.Test.YtookgoidlnlckaaDoorGapCostP18
import Derived.Test.YtookgoidlnlckaaDoorGapCostP17
import Derived.Test.YtookgoidlnlckaaDoorGapCostP7
import Derived.Test.YtookgoidlnlckaaDoorGapCostP3
import Derived.Test.YtookgoidlnlckaaDoorGapCostP1
import Derived.Laws.Bits64b
import Derived.Lib.TrailingZeros
import Derived.Test.YtookgoidlnlckaaDoorGapCostP6
import Derived.Test.YtookgoidlnlckaaDoorGapCostP13
namespace Go.Proofs.YtookgoidlnlckaaDoor
set_option maxRecDepth 100000
set_option maxHeartbeats 40000000
set_option linter.unusedVariables false
set_option linter.unusedSimpArgs false
section
open Go.RowKit
structure GapN (c : Cfg) (s : SlC) (a H : Nat) : Prop where
 cap : CapC c s.ks.length a H
 seg : s.seg = ((2 ^ a : Nat) : Int)
 nk : s.ks.length = 2 ^ a * 2 ^ H
 nv : s.vs.length = 2 ^ a * 2 ^ H
 nc : s.cs.length = 2 ^ H
 cnt : CntB s.cs (2 ^ a)
 may : slMay s = true
theorem gapN_of {c : Cfg} {s : SlC} (hc : cfMay c = true) (hp : powB s.ks.length c.least (taks c c.most) = true) (hm : slMay s = true) (hs : s.seg = c.seg) : ∃ a H, GapN c s a H := by
 obtain ⟨a, H, k⟩ := capC_of hc hp
 have hm' := hm
 simp only [slMay, Bool.and_eq_true] at hm
 obtain ⟨⟨h5, h6⟩, h7⟩ := hm
 obtain ⟨S, M, e1, b1, b2, b3, b4, b5, b6, b7, b8, b9, p1, p2, -⟩ := slHead_facts h5
 have hS : S = 2 ^ a := by have := k.seg; omega
 subst hS
 have hM : M = 2 ^ H := by
  have h1 := k.all
  rw [b3] at h1
  have h2 : 2 ^ a * M = 2 ^ a * 2 ^ H := xo
  exact Nat.eq_of_mul_eq_mul_left (Nat.two_pow_pos a) h2
 subst hM
 exact ⟨a, H, k, e1, b3, b4, b5, cntB_bd e1 h7, hm'⟩
theorem gapE_may {c : Cfg} {s : SlC} {a H : Nat} (k : GapN c s a H) (hs : s.seg = c.seg) (hm : sumC s.cs 0 s.cs.length ≤ c.most) : gapE c s = if denB c s H = true then 0 else 8 := by
 have hh : gapHead c s = true := by
  simp only [gapHead, Bool.and_eq_true, decide_eq_true_eq]
  exact ⟨⟨⟨k.may, hs⟩, k.cap.cap⟩, hm⟩
 rw [gapE, if_pos k.cap.may, gapMay, hh, Bool.true_and, k.cap.hgt]
theorem among_ok (s : SlC) (sa : SlA) (S lo hi : Nat) (hseg : s.seg = S) (hS : 4 ≤ S) (hS2 : S ≤ 64) (A B : Int) (hA : A = ((lo * S : Nat) : Int)) (hB : B = ((hi * S : Nat) : Int)) (h1 : lo ≤ hi) (h2 : hi ≤ s.cs.length) (h3 : lo < s.cs.length) (hcc : s.cs.length ≤ sa.cc) (hlc : s.cs.length ≤ 65536) (hcs : CntB s.cs S) (w : World) (hin : SlIn w s sa) :
    Calls Tryd.prog 21 #[slV s sa, .int .i64 A, .int .i64 B] w (AnsB w (.int .i64 (sumC s.cs lo hi))) := by
 obtain ⟨wa, ka, va, ca, wc, kc, vc, cc⟩ := sa
 have hn := hin.n
 dsimp only at hn hcc
 obtain ⟨b, off, x, rfl, -, -, -⟩ := hn.get (i := 0) xo
 exact among_core w s.seg wa ka va wc kc vc cc s.ws.length s.ks.length s.vs.length s.cs.length s.laid b off s.cs A B S lo hi hseg hS hS2 hA hB h1 h2 h3 hcc hlc rfl hcs hn
theorem gapCheck_ok (c : Cfg) (s : SlC) (sa : SlA) (hl : s.ws.length ≤ 1000000000000) (hl2 : s.ks.length ≤ 1000000000000) (hcc : s.cs.length ≤ sa.cc) (w : World) (hin : SlIn w s sa) :
    Calls Tryd.prog 18 #[.agg #[.int .u8 c.tag, .int .i64 c.most, .int .i64 c.seg, .int .i64 c.least, .int .i64 c.den, .int .i64 c.ll, .int .i64 c.rl, .int .i64 c.rh, .int .i64 c.lh], slV s sa] w (AnsB w (.int .i64 (gapE c s))) := by
 cases hc : cfMay c with
 | false =>
  rw [show gapE c s = 50 by simp [gapE, hc]]
  exact gapCheck_conf c hc _ _ _ _ _ _ _ _ _ _ _ _ _ _ w
 | true =>
  have SK : Hid (∀ W, Below w.heap.size w W → Calls Tryd.prog 46 #[slV s sa] W (AnsB W (.int .i64 (slE s)))) := hid fun W hb => slCheck_ok s sa hl hl2 W (hin.below hb)
  cases hp : powB s.ks.length c.least (taks c c.most) with
  | false =>
   rw [gapE_bad hc (by simp [gapHead, hp])]
   exact gapCheck_high c hc _ _ _ _ _ _ _ _ _ _ _ _ _ _ hp w
  | true =>
   cases hm : slMay s with
   | false =>
    rw [gapE_bad hc (by simp [gapHead, hm])]
    exact gapCheck_slots c hc _ _ _ _ _ _ _ _ _ _ _ _ _ _ hp (slE s) (by simp [slE, hm]) w SK
   | true =>
    rw [show slE s = 0 by simp [slE, hm]] at SK
    by_cases hs : s.seg = c.seg
    · obtain ⟨a, H, k⟩ := gapN_of hc hp hm hs
      have ha4 : 2 ^ 2 ≤ 2 ^ a := Nat.pow_le_pow_right xo k.cap.a2
      have ha6 : 2 ^ a ≤ 2 ^ 6 := Nat.pow_le_pow_right xo k.cap.a6
      have hH0 := Nat.two_pow_pos H
      have hnc := k.nc
      have hcb : s.cs.length ≤ 65536 := by
       have := k.cap.big
       have h9 : 1 * 2 ^ H ≤ 2 ^ a * 2 ^ H := Nat.mul_le_mul_right _ xo
       omega
      have AM : Hid (∀ W, Below w.heap.size w W → Calls Tryd.prog 21 #[slV s sa, .int .i64 0, .int .i64 s.ks.length] W (AnsB W (.int .i64 (sumC s.cs 0 s.cs.length)))) := hid fun W hb =>
       among_ok s sa (2 ^ a) 0 s.cs.length k.seg xo xo 0 s.ks.length (by simp) (by rw [k.nk, k.nc, Nat.mul_comm]) xo xo xo hcc hcb k.cnt W (hin.below hb)
      by_cases hmost : sumC s.cs 0 s.cs.length ≤ c.most
      · refine gapCheck_core c s s.seg _ _ _ _ _ _ _ _ _ _ _ _ _ a H k.cap hs k.nc rfl k.cnt _ hmost _ (gapE_may k hs hmost).symm w SK AM (hid fun h i hh hi W hb => ?_)
        have hi2 : (i + 1) * 2 ^ h ≤ 2 ^ H := by
         have : (i + 1) * 2 ^ h ≤ 2 ^ (H - h) * 2 ^ h := Nat.mul_le_mul_right _ hi
         rwa [← Nat.pow_add, Nat.sub_add_cancel hh] at this
        have hp0 := Nat.two_pow_pos h
        have hlt : i * 2 ^ h < (i + 1) * 2 ^ h := by rw [Nat.succ_mul]; omega
        refine among_ok s sa (2 ^ a) (i * 2 ^ h) ((i + 1) * 2 ^ h) k.seg xo xo _ _ ?_ ?_ xo xo xo hcc hcb k.cnt W (hin.below hb)
        · rw [Nat.mul_comm (2 ^ a), Nat.mul_assoc]
        · rw [Nat.succ_mul i (2 ^ h), Nat.add_mul, Nat.mul_comm (2 ^ a) (2 ^ h), Nat.mul_assoc]
          push_cast
          rfl
      · rw [gapE_bad hc (by simp [gapHead, hmost])]
        exact gapCheck_many c hc _ _ _ _ _ _ _ _ _ _ _ _ _ _ hp hs _ xo w SK AM
    · rw [gapE_bad hc (by simp [gapHead, hs])]
      exact gapCheck_seg c hc _ _ _ _ _ _ _ _ _ _ _ _ _ _ hp hs w SK
end
section
open Go.RowKit Go.Shelf Go.Sort
end
section
open Go.RowKit Go.Shelf Go.Sort
end
section
open Go.RowKit
theorem GapN.nums {c : Cfg} {s : SlC} {a H : Nat} (k : GapN c s a H) : 4 ≤ 2 ^ a ∧ 2 ^ a ≤ 64 ∧ 1 ≤ s.cs.length ∧ s.cs.length ≤ 65536 ∧ s.ks.length ≤ 65536 := by
 have ha4 : 2 ^ 2 ≤ 2 ^ a := Nat.pow_le_pow_right xo k.cap.a2
 have ha6 : 2 ^ a ≤ 2 ^ 6 := Nat.pow_le_pow_right xo k.cap.a6
 have hH0 := Nat.two_pow_pos H
 have hnc := k.nc
 have := k.cap.big
 have h9 : 1 * 2 ^ H ≤ 2 ^ a * 2 ^ H := Nat.mul_le_mul_right _ xo
 have := k.nk
 omega
end
section
open Go.RowKit
theorem cap_nat {c : Cfg} (hd : cfHead c = true) {a : Nat} (hs : c.seg = ((2 ^ a : Nat) : Int)) {n : Int} (h0 : 0 ≤ n) (h1 : n ≤ 16384) : ∃ H : Nat, taks c n = ((2 ^ a * 2 ^ H : Nat) : Int) ∧ 2 ^ a * 2 ^ H ≤ 65536 ∧ n ≤ taks c n := by
 have f := cfHead_facts hd
 obtain ⟨d0, d1, d2, d3, d4, d5, d6, d7, d8, d9, d10, d11, d12, d13, d14, d15, d16, d17⟩ := cfHead_num hd
 have tb := taks_bd hd h0 h1
 obtain ⟨l1, l2, b, eb⟩ := powB_nat f.2.2.2.2.2.1
 have hab : a ≤ b := (Nat.pow_le_pow_iff_right (a := 2) xo).1 xo
 obtain ⟨j, -, ej⟩ := takF_pow c n 20 c.least
 have e : taks c n = ((2 ^ a * 2 ^ (b - a + j) : Nat) : Int) := by
  rw [taks, ej, eb, ← Nat.pow_add, show a + (b - a + j) = b + j by omega, Nat.pow_add]
  push_cast
  rfl
 refine ⟨b - a + j, e, by omega, ?_⟩
 have ht := takF_takes (c := c) (n := n) xo 20 c.least xo (tak_start h0 h1 xo d8 d9).1
 have m1 : c.rh * taks c n ≤ c.den * taks c n := Int.mul_le_mul_of_nonneg_right xo xo
 have m2 : c.den * n ≤ c.den * taks c n := by
  rw [Int.mul_comm c.den n]
  exact Int.le_trans ht m1
 exact Int.le_of_mul_le_mul_left m2 xo
theorem gap_zero {c : Cfg} {s : SlC} (h : gapE c s = 0) : cfMay c = true ∧ ∃ a H, GapN c s a H ∧ s.seg = c.seg ∧ sumC s.cs 0 s.cs.length ≤ c.most ∧ denB c s H = true := by
 unfold gapE at h
 split at h
 · rename_i hc
   split at h
   · rename_i hg
     have hg' := hg
     simp only [gapMay, gapHead, Bool.and_eq_true, decide_eq_true_eq] at hg
     obtain ⟨⟨⟨⟨h1, h2⟩, h3⟩, h4⟩, h5⟩ := hg
     obtain ⟨a, H, k⟩ := gapN_of hc h3 h1 h2
     exact ⟨hc, a, H, k, h2, h4, by rw [← k.cap.hgt]; exact h5⟩
   · cases h
 · cases h
def nilC : SlC := ⟨0, [], [], [], [], 0⟩
def capM (c : Cfg) (n : Nat) : Nat := (taks c n).toNat / c.seg.toNat
theorem cap_facts {c : Cfg} {s : SlC} {a H : Nat} (k : GapN c s a H) {n : Nat} (hn : (n : Int) ≤ c.most) : c.seg.toNat = 2 ^ a ∧ taks c n = ((2 ^ a * capM c n : Nat) : Int) ∧ 1 ≤ capM c n ∧ 2 ^ a * capM c n ≤ 65536 ∧ n ≤ 2 ^ a * capM c n ∧ pwB (capM c n : Int) = true := by
 have hd := cfMay_head k.cap.may
 have d := cfHead_num hd
 obtain ⟨H', e, hb, hle⟩ := cap_nat hd k.cap.seg (n := (n : Int)) xo xo
 have hs : c.seg.toNat = 2 ^ a := by rw [k.cap.seg]; rfl
 have hm : capM c n = 2 ^ H' := by
  rw [capM, e, hs, Int.toNat_natCast, Nat.mul_div_cancel_left _ (Nat.two_pow_pos a)]
 rw [hm]
 exact ⟨hs, e, Nat.two_pow_pos H', hb, by omega, pwB_two H'⟩
theorem gapN_gd {c : Cfg} {s : SlC} {a H : Nat} (k : GapN c s a H) (hu : U64s s.ws) : SlGd s (2 ^ a) ((s.ks.length + 63) / 64) s.ks.length (2 ^ H) ∧ (s.ks.length + 63) / 64 ≤ 2000 := by
 obtain ⟨S, M, g, -, -, -⟩ := slMay_gd hu k.may
 have e1 : S = 2 ^ a := by have := g.seg; have := k.seg; omega
 have e2 : M = 2 ^ H := by have := g.elc; have := k.nc; omega
 have e3 := g.elk
 subst e1 e2
 have hb := k.cap.big
 rw [← e3] at g
 have := k.nk
 exact ⟨g, by omega⟩
end
section
open Go.RowKit
def TabAt (w : World) : Prop := ∀ j, j < 64 → w.cell? ⟨0, j, none⟩ = some (.int .u8 (Lib.deBruijn64tab.getD j 0))
theorem TabAt.below {w w' : World} (h : TabAt w) (hb : Below w.heap.size w w') : TabAt w' := fun j hj => (hb.cell (World.block_lt_of_cell? _ _ (h j hj))).trans (h j hj)
theorem tz64_core (x k idx : Nat) (w : World) (hx0 : ((x : Int) == 0) = false)
    (key : IntKind.u64.wrap (bits BinOp.and IntKind.u64 (x : Int) (IntKind.u64.wrap (-(x : Int))) * 285870213051353865) / 288230376151711744 = (idx : Int))
    (hi : idx < 64) (hk : k < 64) (hcell : w.cell? ⟨0, idx, none⟩ = some (.int .u8 k)) :
    Calls Tryd.prog 33 #[.int .u64 x] w fun e w' => e = .returned (.int .i64 k) ∧ w = w' := by
 go_enter Tryd.func33, Tryd.ntmps33
 go_wp2_with (simp only [key])
 go_ret
 exact ⟨rfl, rfl⟩
theorem tz64_key (x a : Nat) (hx : x < 18446744073709551616) (hx0 : x ≠ 0) (hlow : x &&& (18446744073709551616 - x) = a) :
    IntKind.u64.wrap (bits BinOp.and IntKind.u64 (x : Int) (IntKind.u64.wrap (-(x : Int))) * 285870213051353865) / 288230376151711744 = ((a * 285870213051353865 % 18446744073709551616 / 288230376151711744 : Nat) : Int) := by
 have e1 : IntKind.u64.wrap (-(x : Int)) = ((18446744073709551616 - x : Nat) : Int) := by rw [IntKind.wrap_u64]; omega
 rw [e1, bits_and_u64_nat x _ hx xo, hlow, IntKind.wrap_u64]
 omega
def tzI (x : Int) : Nat := Lib.ctz 64 x.toNat
theorem tz_ok (x : Int) (h0 : 0 ≤ x) (h1 : x < 18446744073709551616) (hx : x ≠ 0) (w : World) (hT : TabAt w) :
    Calls Tryd.prog 33 #[.int .u64 x] w fun e w' => e = .returned (.int .i64 (tzI x)) ∧ w = w' := by
 obtain ⟨n, rfl⟩ : ∃ n : Nat, x = n := ⟨x.toNat, by omega⟩
 have hn0 : n ≠ 0 := xo
 obtain ⟨hlow, hk⟩ := Lib.lowest_bit 64 n hn0 xo
 obtain ⟨hi, htab⟩ := Lib.deBruijn64_at _ hk
 have hcell := hT _ hi
 rw [htab] at hcell
 rw [tzI, Int.toNat_natCast]
 exact tz64_core n _ _ w (by simp; omega) (tz64_key n _ xo hn0 hlow) hi hk hcell
theorem tzI_bit {x : Int} (h0 : 0 ≤ x) (h1 : x < 18446744073709551616) (hx : x ≠ 0) : tzI x < 64 ∧ bitI x (tzI x) = true ∧ ∀ j, j < tzI x → bitI x j = false := by
 obtain ⟨n, rfl⟩ : ∃ n : Nat, x = n := ⟨x.toNat, by omega⟩
 have hn0 : n ≠ 0 := xo
 obtain ⟨m, hm, hk⟩ := Lib.ctzFrom_spec 64 n xo xo
 have e : tzI (n : Int) = Lib.ctzFrom 64 n := by rw [tzI, Int.toNat_natCast, Lib.ctz, if_neg hn0]
 rw [e]
 generalize Lib.ctzFrom 64 n = c at *
 refine ⟨hk, ?_, fun j hj => ?_⟩
 · rw [bitI_nat, hm, Nat.mul_comm, Nat.testBit_mul_two_pow]
   simp
 · rw [bitI_nat, hm, Nat.mul_comm, Nat.testBit_mul_two_pow]
   simp
   omega
end
section
open Go.RowKit
def clrI (x : Int) : Int := bits .and .u64 x (x - 1)
theorem nat_clr (t m i : Nat) : ((2 ^ t * (2 * m + 1)) &&& (2 ^ t * (2 * m + 1) - 1)).testBit i = ((2 ^ t * (2 * m + 1)).testBit i && decide (i ≠ t)) := by
 have hp := Nat.two_pow_pos t
 have e : 2 ^ t * (2 * m + 1) - 1 = 2 ^ t * (2 * m) + (2 ^ t - 1) := by rw [Nat.mul_add]; omega
 rw [Nat.testBit_and, e, Nat.testBit_two_pow_mul_add _ xo]
 have e2 := Nat.testBit_two_pow_mul_add (i := t) (2 * m + 1) (b := 0) hp i
 rw [Nat.add_zero] at e2
 rw [e2]
 by_cases h : i < t
 · simp [h]
 · rw [if_neg h, if_neg h]
   by_cases h2 : i = t
   · subst h2; simp
   · obtain ⟨j, rfl⟩ : ∃ j, i = t + (j + 1) := ⟨i - t - 1, by omega⟩
     rw [show t + (j + 1) - t = j + 1 by omega, Nat.testBit_add_one, Nat.testBit_add_one, show (2 * m + 1) / 2 = m by omega, show 2 * m / 2 = m by omega]
     simp
theorem clrI_nat (n : Nat) (h0 : n ≠ 0) (h1 : n < 18446744073709551616) : clrI (n : Int) = ((n &&& (n - 1) : Nat) : Int) := by
 show IntKind.u64.wrap ((BitVec.ofInt 64 (n : Int) &&& BitVec.ofInt 64 ((n : Int) - 1)).toNat : Int) = _
 rw [show (n : Int) - 1 = ((n - 1 : Nat) : Int) by omega, BitVec.toNat_and, ofInt_u64 n xo, ofInt_u64 (n - 1) xo]
 have : n &&& (n - 1) ≤ n := Nat.and_le_left
 exact IntWalk.u64_in _ xo
theorem clrI_bit {x : Int} (h0 : 0 ≤ x) (h1 : x < 18446744073709551616) (hx : x ≠ 0) : (0 ≤ clrI x ∧ clrI x < 18446744073709551616) ∧ ∀ i, bitI (clrI x) i = (bitI x i && decide (i ≠ tzI x)) := by
 obtain ⟨n, rfl⟩ : ∃ n : Nat, x = n := ⟨x.toNat, by omega⟩
 have hn0 : n ≠ 0 := xo
 obtain ⟨m, hm, hk⟩ := Lib.ctzFrom_spec 64 n xo xo
 have e : tzI (n : Int) = Lib.ctzFrom 64 n := by rw [tzI, Int.toNat_natCast, Lib.ctz, if_neg hn0]
 rw [e, clrI_nat n hn0 xo]
 have hle : n &&& (n - 1) ≤ n := Nat.and_le_left
 refine ⟨⟨by omega, by omega⟩, fun i => ?_⟩
 rw [bitI_nat, bitI_nat]
 generalize Lib.ctzFrom 64 n = t at *
 rw [hm]
 exact nat_clr t m i
def plI (x : Int) : List Nat := (List.range 64).filter (bitI x)
theorem plI_length (x : Int) : (plI x).length = popI x := (List.countP_eq_length_filter ..).symm
theorem plI_cons {x : Int} (h0 : 0 ≤ x) (h1 : x < 18446744073709551616) (hx : x ≠ 0) : plI x = tzI x :: plI (clrI x) := by
 obtain ⟨t1, t2, t3⟩ := tzI_bit h0 h1 hx
 obtain ⟨-, hc⟩ := clrI_bit h0 h1 hx
 have e : List.range 64 = List.range' 0 (tzI x) ++ (tzI x :: List.range' (tzI x + 1) (63 - tzI x)) := by
  have e1 := List.range'_append (s := 0) (m := tzI x) (n := 64 - tzI x) (step := 1)
  simp only [Nat.one_mul, Nat.zero_add] at e1
  rw [show tzI x + (64 - tzI x) = 64 by omega] at e1
  rw [List.range_eq_range', ← e1, show 64 - tzI x = (63 - tzI x) + 1 by omega, List.range'_succ]
 generalize tzI x = t at *
 unfold plI
 rw [e, List.filter_append, List.filter_append]
 have z1 : (List.range' 0 t).filter (bitI x) = [] := by
  rw [List.filter_eq_nil_iff]
  intro i hi
  have := List.mem_range'_1.1 hi
  simp [t3 i xo]
 have z2 : (List.range' 0 t).filter (bitI (clrI x)) = [] := by
  rw [List.filter_eq_nil_iff]
  intro i hi
  have := List.mem_range'_1.1 hi
  simp [hc, t3 i xo]
 rw [z1, z2, List.nil_append, List.nil_append, List.filter_cons, List.filter_cons, if_pos t2, if_neg (by simp [hc])]
 congr 1
 apply List.filter_congr
 intro i hi
 have := List.mem_range'_1.1 hi
 rw [hc, decide_eq_true xo, Bool.and_true]
def clrN (x : Int) : Nat → Int
  | 0 => x
  | k + 1 => clrI (clrN x k)
theorem clrN_zero (x : Int) : clrN x 0 = x := rfl
theorem clrN_succ (x : Int) (k : Nat) : clrN x (k + 1) = clrI (clrN x k) := rfl
theorem clrN_pl {x : Int} (h0 : 0 ≤ x) (h1 : x < 18446744073709551616) : ∀ k, k ≤ popI x → (0 ≤ clrN x k ∧ clrN x k < 18446744073709551616) ∧ plI (clrN x k) = (plI x).drop k
  | 0, _ => ⟨⟨h0, h1⟩, rfl⟩
  | k + 1, hk => by
   obtain ⟨⟨b1, b2⟩, e⟩ := clrN_pl h0 h1 k xo
   have hne : clrN x k ≠ 0 := by
    intro h
    have z : plI (clrN x k) = [] := by rw [h, plI, List.filter_eq_nil_iff]; intro i _; simp [bitI_zero]
    rw [z] at e
    have := congrArg List.length e
    rw [List.length_drop, plI_length] at this
    simp at this
    omega
   obtain ⟨hb, -⟩ := clrI_bit b1 b2 hne
   have hc := plI_cons b1 b2 hne
   refine ⟨hb, ?_⟩
   rw [clrN_succ, ← List.tail_drop, ← e, hc]
   rfl
theorem clrN_tz {x : Int} (h0 : 0 ≤ x) (h1 : x < 18446744073709551616) {k : Nat} (hk : k < popI x) : clrN x k ≠ 0 ∧ (0 ≤ clrN x k ∧ clrN x k < 18446744073709551616) ∧ tzI (clrN x k) = (plI x).getD k 0 := by
 obtain ⟨⟨b1, b2⟩, e⟩ := clrN_pl h0 h1 k xo
 have hne : clrN x k ≠ 0 := by
  intro h
  have z : plI (clrN x k) = [] := by rw [h, plI, List.filter_eq_nil_iff]; intro i _; simp [bitI_zero]
  rw [z] at e
  have := congrArg List.length e
  rw [List.length_drop, plI_length] at this
  simp at this
  omega
 refine ⟨hne, ⟨b1, b2⟩, ?_⟩
 rw [plI_cons b1 b2 hne] at e
 have := congrArg (fun l => l.getD 0 0) e
 simp only [List.getD_cons_zero] at this
 rw [this, List.getD_eq_getElem?_getD, List.getElem?_drop, Nat.add_zero, List.getD_eq_getElem?_getD]
theorem plsW_app (ws : List Int) {a b d : Nat} (h1 : a ≤ b) (h2 : b ≤ d) : plsW ws a d = plsW ws a b ++ plsW ws b d := by
 unfold plsW
 rw [← List.filter_append]
 congr 1
 have e := List.range'_append (s := a) (m := b - a) (n := d - b) (step := 1)
 rw [Nat.one_mul, show a + (b - a) = b by omega, show b - a + (d - b) = d - a by omega] at e
 exact e.symm
theorem pl_word {ws : List Int} (hu : U64s ws) {n m : Nat} (hm : 64 * m < n) : (plI (cutV ws 0 n m)).map (64 * m + ·) = plsW ws (64 * m) (min (64 * m + 64) n) := by
 have e1 : plI (cutV ws 0 n m) = (List.range (min (64 * m + 64) n - 64 * m)).filter fun j => bitW ws (64 * m + j) := by
  have e : List.range 64 = List.range (min (64 * m + 64) n - 64 * m) ++ List.range' (min (64 * m + 64) n - 64 * m) (64 - (min (64 * m + 64) n - 64 * m)) := by
   have e := List.range'_append (s := 0) (m := min (64 * m + 64) n - 64 * m) (n := 64 - (min (64 * m + 64) n - 64 * m)) (step := 1)
   simp only [Nat.one_mul, Nat.zero_add] at e
   rw [show min (64 * m + 64) n - 64 * m + (64 - (min (64 * m + 64) n - 64 * m)) = 64 by omega] at e
   rw [List.range_eq_range', List.range_eq_range', e]
  unfold plI
  rw [e, List.filter_append]
  have z : (List.range' (min (64 * m + 64) n - 64 * m) (64 - (min (64 * m + 64) n - 64 * m))).filter (bitI (cutV ws 0 n m)) = [] := by
   rw [List.filter_eq_nil_iff]
   intro i hi
   have := List.mem_range'_1.1 hi
   rw [cutV_bit hu xo xo, inW, decide_eq_false (by omega : ¬ 64 * m + i < n)]
   simp
  rw [z, List.append_nil]
  apply List.filter_congr
  intro i hi
  have := List.mem_range.1 hi
  rw [cutV_bit hu xo xo, inW, decide_eq_true (by omega : 64 * m + i < n)]
  simp
 rw [e1]
 unfold plsW
 rw [List.range'_eq_map_range, List.filter_map]
 rfl
def nthB (ws : List Int) (n m : Nat) : Nat := cntW ws 0 (min (64 * m) n)
theorem nthB_zero (ws : List Int) (n : Nat) : nthB ws n 0 = 0 := by simp [nthB, cntW]
theorem nthB_succ {ws : List Int} (hu : U64s ws) {n m : Nat} (hm : 64 * m < n) : nthB ws n (m + 1) = nthB ws n m + popI (cutV ws 0 n m) := by
 have e := congrArg List.length (pl_word hu hm)
 rw [List.length_map, plI_length, plsW_length] at e
 have e2 := congrArg List.length (plsW_app ws (a := 0) (b := 64 * m) (d := min (64 * m + 64) n) xo xo)
 rw [List.length_append, plsW_length, plsW_length, plsW_length] at e2
 rw [nthB, nthB, show min (64 * (m + 1)) n = min (64 * m + 64) n by omega, show min (64 * m) n = 64 * m by omega, e2, e]
theorem nth_hit {ws : List Int} (hu : U64s ws) {n m k : Nat} (hm : 64 * m < n) (hk : k < popI (cutV ws 0 n m)) : nthB ws n m + k < (plsW ws 0 n).length ∧ 64 * m + (plI (cutV ws 0 n m)).getD k 0 = (plsW ws 0 n).getD (nthB ws n m + k) 0 := by
 have e0 := pl_word hu hm
 have hk2 : k < (plI (cutV ws 0 n m)).length := by rw [plI_length]; exact hk
 have hk3 : k < (plsW ws (64 * m) (min (64 * m + 64) n)).length := by rw [← e0, List.length_map]; exact hk2
 have e1 := plsW_app ws (a := 0) (b := min (64 * m + 64) n) (d := n) xo xo
 rw [plsW_app ws (a := 0) (b := 64 * m) (d := min (64 * m + 64) n) xo xo] at e1
 have hB : nthB ws n m = (plsW ws 0 (64 * m)).length := by rw [plsW_length, nthB, show min (64 * m) n = 64 * m by omega]
 refine ⟨?_, ?_⟩
 · rw [e1, List.length_append, List.length_append, hB]; omega
 · rw [e1, List.append_assoc, hB, List.getD_eq_getElem?_getD (l := _ ++ _), List.getElem?_append_right xo, show (plsW ws 0 (64 * m)).length + k - (plsW ws 0 (64 * m)).length = k by omega, List.getElem?_append_left hk3, ← e0, List.getElem?_map, List.getD_eq_getElem?_getD, List.getElem?_eq_getElem hk2]
   rfl
theorem nth_miss {ws : List Int} {n m : Nat} (hm : n ≤ 64 * m) : nthB ws n m = (plsW ws 0 n).length := by rw [plsW_length, nthB, show min (64 * m) n = n by omega]
end
section
open Go.RowKit
def topI (p : Nat → Bool) : Nat → Int
  | 0 => -1
  | n + 1 => if p n = true then n else topI p n
theorem topI_zero (p : Nat → Bool) : topI p 0 = -1 := rfl
theorem topI_yes {p : Nat → Bool} {n : Nat} (h : p n = true) : topI p (n + 1) = n := by rw [topI, if_pos h]
theorem topI_no {p : Nat → Bool} {n : Nat} (h : p n = false) : topI p (n + 1) = topI p n := by rw [topI, if_neg (by simp [h])]
theorem topI_cases (p : Nat → Bool) : ∀ n, (topI p n = -1 ∧ ∀ i, i < n → p i = false) ∨ ∃ k, k < n ∧ topI p n = (k : Nat) ∧ p k = true ∧ ∀ i, k < i → i < n → p i = false
  | 0 => Or.inl ⟨rfl, fun i hi => by omega⟩
  | n + 1 => by
   cases h : p n with
   | true => exact Or.inr ⟨n, by omega, topI_yes h, h, fun i h1 h2 => by omega⟩
   | false =>
    rw [topI_no h]
    rcases topI_cases p n with ⟨e, hn⟩ | ⟨k, hk, e, hp, hn⟩
    · refine Or.inl ⟨e, fun i hi => ?_⟩
      rcases Nat.lt_or_ge i n with q | q
      · exact hn i q
      · rw [show i = n by omega]; exact h
    · refine Or.inr ⟨k, by omega, e, hp, fun i h1 h2 => ?_⟩
      rcases Nat.lt_or_ge i n with q | q
      · exact hn i h1 q
      · rw [show i = n by omega]; exact h
theorem topI_bd (p : Nat → Bool) (n : Nat) : -1 ≤ topI p n ∧ topI p n < n ∨ (topI p n = -1 ∧ n = 0) := by
 rcases topI_cases p n with ⟨e, _⟩ | ⟨k, hk, e, _⟩ <;> omega
def wnd (a h at_ : Nat) : Nat := at_ / 2 ^ (a + h)
theorem wnd_bd {a h H at_ : Nat} (hh : h ≤ H) (hat : at_ < 2 ^ a * 2 ^ H) : (wnd a h at_ + 1) * 2 ^ h ≤ 2 ^ H ∧ wnd a h at_ * 2 ^ (a + h) ≤ at_ ∧ at_ < (wnd a h at_ + 1) * 2 ^ (a + h) ∧ (wnd a h at_ + 1) * 2 ^ (a + h) ≤ 2 ^ a * 2 ^ H := by
 have hp := Nat.two_pow_pos (a + h)
 have e1 : 2 ^ a * 2 ^ H = 2 ^ (H - h) * 2 ^ (a + h) := by rw [← Nat.pow_add, ← Nat.pow_add]; congr 1; omega
 have e2 : 2 ^ H = 2 ^ (H - h) * 2 ^ h := by rw [← Nat.pow_add]; congr 1; omega
 have hw : wnd a h at_ < 2 ^ (H - h) := by
  unfold wnd
  rw [Nat.div_lt_iff_lt_mul hp, ← e1]; exact hat
 have h1 := Nat.div_mul_le_self at_ (2 ^ (a + h))
 have h2 := Nat.lt_div_mul_add hp (a := at_)
 refine ⟨?_, h1, ?_, ?_⟩
 · rw [e2]; exact Nat.mul_le_mul_right _ hw
 · rw [Nat.succ_mul]; exact h2
 · rw [e1]; exact Nat.mul_le_mul_right _ hw
theorem wnd_seg (a h at_ : Nat) : wnd a h at_ * 2 ^ (a + h) = wnd a h at_ * 2 ^ h * 2 ^ a ∧ (wnd a h at_ + 1) * 2 ^ (a + h) = (wnd a h at_ + 1) * 2 ^ h * 2 ^ a ∧ wnd a h at_ * 2 ^ (a + h) + 2 ^ (a + h) = (wnd a h at_ + 1) * 2 ^ (a + h) := by
 refine ⟨?_, ?_, by rw [Nat.succ_mul]⟩
 · rw [Nat.pow_add, Nat.mul_comm (2 ^ a), Nat.mul_assoc]
 · rw [Nat.pow_add, Nat.mul_comm (2 ^ a), Nat.mul_assoc]
end
section
open Go.RowKit
def inH (s : SlC) (a h at_ : Nat) : Int := sumC s.cs (wnd a h at_ * 2 ^ h) ((wnd a h at_ + 1) * 2 ^ h)
def ovB (c : Cfg) (s : SlC) (a H at_ h : Nat) : Bool := !fulB c H h (inH s a h at_ + 1)
def unfB (c : Cfg) (s : SlC) (a H at_ h : Nat) : Bool := !sprB c s.ks.length H h (inH s a h at_)
theorem ful_room {c : Cfg} {size : Int} {a H h : Nat} (k : CapC c size a H) (hh : h ≤ H) {n : Int} (hf : fulB c H h n = true) : n ≤ ((2 ^ (a + h) : Nat) : Int) := by
 obtain ⟨d0, d1, d2, d3, d4, d5, d6, d7, d8, d9, d10, d11, d12, d13, d14, d15, d16, d17⟩ := cfHead_num (cfMay_head k.may)
 have hw : wdC c h = ((2 ^ (a + h) : Nat) : Int) := by rw [wdC, k.seg, Nat.pow_add]; push_cast; rfl
 have hw0 := Nat.two_pow_pos (a + h)
 unfold fulB at hf
 split at hf
 · rw [decide_eq_true_eq, hw] at hf
   have := Int.mul_le_mul_of_nonneg_left (show c.rh ≤ c.den by omega) (show (0 : Int) ≤ ((2 ^ (a + h) : Nat) : Int) by omega)
   exact Int.le_of_mul_le_mul_right (Int.le_trans hf this) xo
 · rename_i hH
   rw [decide_eq_true_eq, hw] at hf
   have h1 : c.lh * ((H : Int) - h) ≤ c.den * ((H : Int) - h) := Int.mul_le_mul_of_nonneg_right xo xo
   have h2 : c.rh * (h : Int) ≤ c.den * (h : Int) := Int.mul_le_mul_of_nonneg_right xo xo
   have h3 : c.den * ((H : Int) - h) + c.den * (h : Int) = H * c.den := by rw [← Int.mul_add, Int.mul_comm]; congr 1; omega
   have h4 := Int.mul_le_mul_of_nonneg_left (show c.lh * ((H : Int) - h) + c.rh * h ≤ H * c.den by omega) (show (0 : Int) ≤ ((2 ^ (a + h) : Nat) : Int) by omega)
   rw [Int.mul_assoc] at hf
   have h5 : (0 : Int) < (H : Int) * c.den := Int.mul_pos xo xo
   exact Int.le_of_mul_le_mul_right (Int.le_trans hf h4) h5
def manyC (s : SlC) : Nat := cntW s.ws 0 s.ks.length
def homeC (s : SlC) (k : Nat) : Nat := (plsW s.ws 0 s.ks.length).getD (k - 1) 0
theorem homeC_lt {s : SlC} (h : 1 ≤ s.ks.length) (k : Nat) : homeC s k < s.ks.length := by
 unfold homeC
 rcases Nat.lt_or_ge (k - 1) (plsW s.ws 0 s.ks.length).length with q | q
 · exact (plsW_getD q).2
 · rw [List.getD_eq_getElem?_getD, List.getElem?_eq_none q]; simpa using Nat.lt_of_lt_of_le Nat.zero_lt_one h
def insL (l : List (Int × Int)) (k : Nat) (p : Int × Int) : List (Int × Int) := l.take k ++ p :: l.drop k
theorem insL_length {l : List (Int × Int)} {k : Nat} (h : k ≤ l.length) (p : Int × Int) : (insL l k p).length = l.length + 1 := by
 simp [insL]; omega
def putN (c : Cfg) (s : SlC) (a H : Nat) (k : Nat) (p : Int × Int) : SlC :=
  if topI (ovB c s a H (homeC s k)) (H + 1) = H then wideC (2 ^ a) (capM c (manyC s + 1)) s.laid (insL (prs s 0 s.ks.length) k p)
  else
   let h := (topI (ovB c s a H (homeC s k)) (H + 1) + 1).toNat
   let lo := wnd a h (homeC s k) * 2 ^ (a + h)
   let hi := (wnd a h (homeC s k) + 1) * 2 ^ (a + h)
   spC s lo hi (insL (prs s lo hi) (k - cntW s.ws 0 lo) p)
def sgL (c : Cfg) : Nat := c.seg.toNat.log2
def putE (c : Cfg) (s : SlC) (k : Int) : Int := if gapE c s = 0 then (if k < 0 ∨ (manyC s : Int) < k then 2 else if (manyC s : Int) = c.most then 9 else 0) else gapE c s
def putC (c : Cfg) (s : SlC) (k : Int) (p : Int × Int) : SlC := if putE c s k = 0 then putN c s (sgL c) (htC c s.ks.length) k.toNat p else nilC
theorem sum_many {c : Cfg} {s : SlC} {a H : Nat} (k : GapN c s a H) (hu : U64s s.ws) : sumC s.cs 0 s.cs.length = manyC s := by
 obtain ⟨g, -⟩ := gapN_gd k hu
 rw [sumC_cnt2 g (Nat.zero_le _) (by rw [k.nc]; exact Nat.le_refl _), manyC, Nat.zero_mul, k.nc, k.nk, Nat.mul_comm (2 ^ H)]
theorem in_cnt {c : Cfg} {s : SlC} {a H h at_ : Nat} (k : GapN c s a H) (hu : U64s s.ws) (hh : h ≤ H) (hat : at_ < s.ks.length) : inH s a h at_ = (cntW s.ws (wnd a h at_ * 2 ^ (a + h)) ((wnd a h at_ + 1) * 2 ^ (a + h)) : Nat) := by
 obtain ⟨g, -⟩ := gapN_gd k hu
 rw [k.nk] at hat
 have b := wnd_bd hh hat
 have e := wnd_seg a h at_
 rw [inH, sumC_cnt2 g (Nat.mul_le_mul_right _ xo) b.1, e.1, e.2.1]
theorem pls_rank {ws : List Int} {n i : Nat} (h : i < (plsW ws 0 n).length) : cntW ws 0 ((plsW ws 0 n).getD i 0) = i ∧ bitW ws ((plsW ws 0 n).getD i 0) = true ∧ (plsW ws 0 n).getD i 0 < n := by
 induction n with
 | zero => simp [plsW_nil] at h
 | succ n ih =>
  rw [plsW_succ (Nat.zero_le _)] at h ⊢
  rcases Nat.lt_or_ge i (plsW ws 0 n).length with q | q
  · have e : (plsW ws 0 n ++ if bitW ws n = true then [n] else []).getD i 0 = (plsW ws 0 n).getD i 0 := by
      rw [List.getD_eq_getElem?_getD, List.getElem?_append_left q, ← List.getD_eq_getElem?_getD]
    rw [e]
    obtain ⟨h1, h2, h3⟩ := ih q
    exact ⟨h1, h2, by omega⟩
  · by_cases hb : bitW ws n = true
    · rw [if_pos hb, List.length_append, List.length_singleton] at h
      have hi : i = (plsW ws 0 n).length := xo
      rw [if_pos hb]
      have e : (plsW ws 0 n ++ [n]).getD i 0 = n := by
       rw [List.getD_eq_getElem?_getD, hi, List.getElem?_append_right (Nat.le_refl _), Nat.sub_self]; rfl
      rw [e]
      exact ⟨by rw [hi, plsW_length], hb, by omega⟩
    · rw [if_neg hb, List.append_nil] at h; omega
theorem home_in {s : SlC} {k lo hi : Nat} (hn : 1 ≤ s.ks.length) (hk : k ≤ manyC s) (hlo : lo ≤ homeC s k) (hhi : homeC s k < hi) (hh : hi ≤ s.ks.length) : cntW s.ws 0 lo ≤ k ∧ k - cntW s.ws 0 lo ≤ (prs s lo hi).length := by
 rw [prs_length]
 have hadd := cntW_add s.ws (a := 0) (b := lo) (d := hi) xo xo
 have hadd2 := cntW_add s.ws (a := 0) (b := hi) (d := s.ks.length) xo hh
 have hm : manyC s = cntW s.ws 0 s.ks.length := rfl
 rcases Nat.eq_zero_or_pos k with rfl | hk0
 · -- ahead of all: there is nothing ahead of the first one
   have hz : cntW s.ws 0 lo = 0 := by
    rcases Nat.eq_zero_or_pos (manyC s) with q | q
    · omega
    · have hr := pls_rank (ws := s.ws) (n := s.ks.length) (i := 0) (by rw [plsW_length]; omega)
      have e : homeC s 0 = (plsW s.ws 0 s.ks.length).getD 0 0 := rfl
      rw [← e] at hr
      have := cntW_mono (ws := s.ws) (a := 0) hlo
      omega
   omega
 · have hr := pls_rank (ws := s.ws) (n := s.ks.length) (i := k - 1) (by rw [plsW_length]; omega)
   have e : homeC s k = (plsW s.ws 0 s.ks.length).getD (k - 1) 0 := rfl
   rw [← e] at hr
   have h1 := cntW_mono (ws := s.ws) (a := 0) hlo
   have h2 : cntW s.ws 0 (homeC s k + 1) = k := by
    rw [cntW_succ (Nat.zero_le _), if_pos hr.2.1]; omega
   have h3 := cntW_mono (ws := s.ws) (a := 0) (show homeC s k + 1 ≤ hi by omega)
   omega
theorem put_room {c : Cfg} {s : SlC} {a H : Nat} (k : GapN c s a H) (hu : U64s s.ws) {at_ : Nat} (hat : at_ < s.ks.length) (hne : topI (ovB c s a H at_) (H + 1) ≠ H) :
    ∃ h : Nat, topI (ovB c s a H at_) (H + 1) + 1 = h ∧ h ≤ H ∧ (cntW s.ws (wnd a h at_ * 2 ^ (a + h)) ((wnd a h at_ + 1) * 2 ^ (a + h)) : Nat) + 1 ≤ 2 ^ (a + h) := by
 have hmain : ∀ h : Nat, h ≤ H → ovB c s a H at_ h = false → (cntW s.ws (wnd a h at_ * 2 ^ (a + h)) ((wnd a h at_ + 1) * 2 ^ (a + h)) : Nat) + 1 ≤ 2 ^ (a + h) := by
  intro h hh ho
  unfold ovB at ho
  rw [Bool.not_eq_false'] at ho
  rw [in_cnt k hu hh hat] at ho
  have := ful_room k.cap hh ho
  omega
 rcases topI_cases (ovB c s a H at_) (H + 1) with ⟨e, hn⟩ | ⟨q, hq, e, hp, hn⟩
 · exact ⟨0, by omega, by omega, hmain 0 xo (hn 0 xo)⟩
 · have hqH : q ≠ H := fun h => hne (by rw [e, h])
   exact ⟨q + 1, by omega, by omega, hmain (q + 1) xo (hn (q + 1) xo xo)⟩
end
section
open Go.RowKit
theorem nar_step {c : Cfg} {size : Int} {a H : Nat} (k : CapC c size a H) {m : Nat} (hf : sprB c size H H m = false) : ∃ H', H = H' + 1 ∧ CapC c (size / 2) a H' ∧ 8 * ((m : Int) + 1) < size := by
 have hd := cfMay_head k.may
 obtain ⟨d0, d1, d2, d3, d4, d5, d6, d7, d8, d9, d10, d11, d12, d13, d14, d15, d16, d17⟩ := cfHead_num hd
 obtain ⟨l1, l2, b, eb⟩ := powB_nat (cfHead_facts hd).2.2.2.2.2.1
 obtain ⟨s1, s2, s3⟩ := powB_iff.1 k.cap
 unfold sprB at hf
 rw [Bool.or_eq_false_iff, decide_eq_false_iff_not, decide_eq_false_iff_not] at hf
 obtain ⟨hne, hlt⟩ := hf
 have hall := k.all
 have hseg := k.seg
 have e : 2 ^ a * 2 ^ H = 2 ^ (a + H) := (Nat.pow_add ..).symm
 have hb1 : 2 ^ b < 2 ^ (a + H) := by rw [← e]; omega
 have hbH : b < a + H := (Nat.pow_lt_pow_iff_right (a := 2) xo).1 hb1
 have hab : a ≤ b := (Nat.pow_le_pow_iff_right (a := 2) xo).1 xo
 obtain ⟨H', rfl⟩ : ∃ H', H = H' + 1 := ⟨H - 1, by omega⟩
 have e2 : 2 ^ a * 2 ^ (H' + 1) = 2 * (2 ^ a * 2 ^ H') := by rw [Nat.pow_succ]; simp only [Nat.mul_comm, Nat.mul_left_comm]
 have hhalf : size / 2 = ((2 ^ a * 2 ^ H' : Nat) : Int) := by rw [hall, e2]; omega
 have hbig := k.big
 have h14 := k.h14
 have hlb : 2 ^ b ≤ 2 ^ a * 2 ^ H' := by rw [← Nat.pow_add]; exact Nat.pow_le_pow_right xo xo
 refine ⟨H', rfl, ⟨k.may, powB_iff.2 ⟨by omega, by omega, ?_⟩, k.seg, k.a2, k.a6, hhalf, by omega, ?_, by omega⟩, ?_⟩
 · rw [hhalf, ← Nat.pow_add]; exact pwB_two _
 · rw [htC, hseg, hhalf, Int.natCast_mul, Int.mul_ediv_cancel_left _ (by have := Nat.two_pow_pos a; omega), Int.toNat_natCast, Nat.log2_two_pow]
 · have hw : wdC c (H' + 1) = size := by rw [wdC, hseg, hall]; push_cast; rfl
   rw [hw] at hlt
   have e3 : c.ll * (((H' + 1 : Nat) : Int) - ((H' + 1 : Nat) : Int)) + c.rl * ((H' + 1 : Nat) : Int) = c.rl * ((H' + 1 : Nat) : Int) := by rw [Int.sub_self, Int.mul_zero, Int.zero_add]
   rw [e3] at hlt
   have h1 : ((m : Int) + 1) * ((H' + 1 : Nat) : Int) * c.den < size * (c.rl * ((H' + 1 : Nat) : Int)) := xo
   have h2 : ((m : Int) + 1) * ((H' + 1 : Nat) : Int) * c.den = (((m : Int) + 1) * c.den) * ((H' + 1 : Nat) : Int) := by rw [Int.mul_assoc, Int.mul_comm _ c.den, ← Int.mul_assoc]
   have h3 : size * (c.rl * ((H' + 1 : Nat) : Int)) = (size * c.rl) * ((H' + 1 : Nat) : Int) := by rw [Int.mul_assoc]
   rw [h2, h3] at h1
   have h4 : ((m : Int) + 1) * c.den < size * c.rl := Int.lt_of_mul_lt_mul_right h1 xo
   have h5 := Int.mul_le_mul_of_nonneg_left (show 8 * c.rl ≤ c.den by omega) (show (0 : Int) ≤ (m : Int) + 1 by omega)
   have h6 : ((m : Int) + 1) * (8 * c.rl) = (8 * ((m : Int) + 1)) * c.rl := by rw [← Int.mul_assoc, Int.mul_comm _ 8]
   rw [h6] at h5
   exact Int.lt_of_mul_lt_mul_right (Int.lt_of_le_of_lt h5 h4) xo
def narF (c : Cfg) (m : Int) : Nat → Int → Int
  | 0, size => size
  | f + 1, size => if sprB c size (htC c size) (htC c size) m = true then size else narF c m f (size / 2)
theorem nar_ok {c : Cfg} {m : Nat} : ∀ (f : Nat) (size : Int) (a H : Nat), CapC c size a H → H < f → (m : Int) ≤ size → ∃ H', H' ≤ H ∧ CapC c (narF c m f size) a H' ∧ (m : Int) ≤ narF c m f size ∧ sprB c (narF c m f size) H' H' m = true
  | 0, _, _, _, _, h, _ => by omega
  | f + 1, size, a, H, k, h, hm => by
   rw [narF, k.hgt]
   cases hs : sprB c size H H m with
   | true => rw [if_pos rfl]; exact ⟨H, Nat.le_refl _, k, hm, hs⟩
   | false =>
    rw [if_neg (by decide)]
    obtain ⟨H', rfl, k', h8⟩ := nar_step k hs
    obtain ⟨H2, q1, q2, q3, q4⟩ := nar_ok (m := m) f (size / 2) a H' k' xo xo
    exact ⟨H2, by omega, q2, q3, q4⟩
def takN (c : Cfg) (s : SlC) (a H : Nat) (k : Nat) : SlC :=
  let at_ := (plsW s.ws 0 s.ks.length).getD k 0
  let z := tkC s at_
  let t := topI (unfB c z a H at_) (H + 1)
  if t = -1 then z
  else if t = H then wideC (2 ^ a) ((narF c (manyC z) 20 z.ks.length).toNat / 2 ^ a) z.laid (prs z 0 z.ks.length)
  else spC z (wnd a (t + 1).toNat at_ * 2 ^ (a + (t + 1).toNat)) ((wnd a (t + 1).toNat at_ + 1) * 2 ^ (a + (t + 1).toNat)) (prs z (wnd a (t + 1).toNat at_ * 2 ^ (a + (t + 1).toNat)) ((wnd a (t + 1).toNat at_ + 1) * 2 ^ (a + (t + 1).toNat)))
def takE (c : Cfg) (s : SlC) (k : Int) : Int := if gapE c s = 0 then (if k < 0 ∨ (manyC s : Int) ≤ k then 2 else 0) else gapE c s
def takC (c : Cfg) (s : SlC) (k : Int) : SlC := if takE c s k = 0 then takN c s (sgL c) (htC c s.ks.length) k.toNat else nilC
end
end Go.Proofs.YtookgoidlnlckaaDoor
